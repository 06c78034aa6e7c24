/- The functions that the claims reach answer as their texts do. -/
import Derived.Test.YtdjmbggefcfacaaT0
import Derived.Test.YtdjmbggefcfacaaProg
import Derived.KernelRfl
namespace Go.Proofs.Ytdjmbggefcfacaa
open Go.Rv
set_option maxRecDepth 100000
set_option maxHeartbeats 2000000
set_option linter.unusedVariables false
def lay : Lay := [(2, .int .i64),
  (3, .int .i64),
  (4, .bool),
  (5, .int .u8),
  (9, .string),
  (12, .int .u64),
  (21, .int .i32),
  (22, .struct [⟨0, 1, false⟩, ⟨1, 1, false⟩] [3, 3] 16 true),
  (23, .struct [⟨0, 1, false⟩, ⟨1, 1, false⟩] [3, 3] 16 true),
  (24, .struct [⟨0, 1, false⟩, ⟨1, 1, false⟩] [3, 3] 16 true),
  (25, .slice 3),
  (26, .struct [⟨0, 2, true⟩, ⟨2, 1, false⟩, ⟨3, 1, false⟩] [3, 3, 3, 25] 48 false),
  (27, .struct [⟨0, 2, true⟩, ⟨2, 1, false⟩, ⟨3, 1, false⟩] [3, 3, 3, 25] 48 false),
  (38, .struct [⟨0, 2, true⟩, ⟨2, 1, false⟩, ⟨3, 1, false⟩] [3, 3, 3, 25] 48 false),
  (39, .struct [⟨0, 2, true⟩, ⟨2, 1, false⟩, ⟨3, 1, false⟩] [3, 3, 3, 25] 48 false),
  (44, .struct [⟨0, 1, false⟩, ⟨1, 2, true⟩, ⟨3, 1, false⟩, ⟨4, 1, false⟩, ⟨5, 1, false⟩, ⟨6, 1, false⟩] [3, 3, 3, 3, 3, 9, 25] 80 false),
  (45, .struct [⟨0, 1, false⟩, ⟨1, 2, true⟩, ⟨3, 1, false⟩, ⟨4, 1, false⟩, ⟨5, 1, false⟩, ⟨6, 1, false⟩] [3, 3, 3, 3, 3, 9, 25] 80 false),
  (72, .pointer 94),
  (78, .int .u64),
  (82, .int .u64),
  (93, .struct [⟨0, 1, false⟩, ⟨1, 1, false⟩, ⟨2, 1, false⟩] [5, 72, 72] 24 false),
  (94, .struct [⟨0, 1, false⟩, ⟨1, 1, false⟩, ⟨2, 1, false⟩] [5, 72, 72] 24 false),
  (98, .slice 5),
  (99, .slice 25),
  (103, .slice 127),
  (110, .slice 4),
  (111, .pointer 114),
  (112, .map 24 3),
  (113, .struct [⟨0, 1, false⟩, ⟨1, 1, false⟩, ⟨2, 1, false⟩] [25, 103, 112] 56 false),
  (114, .struct [⟨0, 1, false⟩, ⟨1, 1, false⟩, ⟨2, 1, false⟩] [25, 103, 112] 56 false),
  (117, .int .u32),
  (126, .struct [⟨0, 1, false⟩, ⟨1, 1, false⟩, ⟨2, 1, false⟩] [3, 3, 3] 24 true),
  (127, .struct [⟨0, 1, false⟩, ⟨1, 1, false⟩, ⟨2, 1, false⟩] [3, 3, 3] 24 true),
  (139, .pointer 5)]

theorem lay_ok : LayOK Try.prog lay := layOK_of (by decide +kernel)
theorem mixed : Try.prog.follows .mixedOrders = true := by kernel_rfl
def VS56 {β : Type} (N : Nat) (q_laws_szIntS : (a0 : List Int) → (a1 : Int) → (k : Int → Option β) → Option β) : Rv.Spec β := fun args K => match args with
  | [.v (.one (.sl 3 (.ints .i64 a0))), .v (.one (.int .i64 a1))] => q_laws_szIntS a0 a1 (fun z2 => K (.v (.one (.int .i64 z2))))
  | _ => none
def S56 {β : Type} (N : Nat) : Rv.Spec β := VS56 N (laws_szIntS N)
def VE56 {β : Type} (N : Nat) : Env β := ⟨[], [], [], []⟩
def E56 {β : Type} (N : Nat) : Env β := VE56 N
def BV_laws_szIntS {β : Type} (N : Nat) (a0 : List Int) (a1 : Int) (k : Int → Option β) : Option β :=
(cond ((decide ((w64 (a1 - (a0.length : Int))) < 0)))
(k (-1))
(k ((w64 (a1 - (a0.length : Int))))))
theorem t_laws_szIntS {β : Type} (N : Nat) (a0 : List Int) (a1 : Int) (k : Int → Option β) : laws_szIntS N a0 a1 k = BV_laws_szIntS N a0 a1 k := by
  unfold laws_szIntS BV_laws_szIntS
  rfl
theorem ve56_0 {β : Type} (N : Nat)  (a0 : List Int) (a1 : Int) (K : TV → Option β) : evFn lay (VE56 N) Try.f56 [.v (.one (.sl 3 (.ints .i64 a0))), .v (.one (.int .i64 a1))] K = BV_laws_szIntS N a0 a1 (fun z2 => K (.v (.one (.int .i64 z2)))) := by kernel_rfl
theorem e56_0 {β : Type} (N : Nat)  (a0 : List Int) (a1 : Int) (K : TV → Option β) : evFn lay (E56 N) Try.f56 [.v (.one (.sl 3 (.ints .i64 a0))), .v (.one (.int .i64 a1))] K = laws_szIntS N a0 a1 (fun z2 => K (.v (.one (.int .i64 z2)))) := (ve56_0 N a0 a1 K).trans (t_laws_szIntS N a0 a1 (fun z2 => K (.v (.one (.int .i64 z2))))).symm
theorem o56 {β : Type} (N : Nat) : SpecOK (β := β) Try.prog 56 (S56 N) := by
  refine spec_of lay_ok mixed (E := E56 N) (specs_loops specs_nil) muts_nil gs_nil Try.func56 (by kernel_rfl) 0 (by kernel_rfl) trivial fun args K r h => ?_
  unfold S56 VS56 at h
  split at h
  · exact (e56_0 N _ _ _).trans h
  · cases h
def VS23 {β : Type} (N : Nat) (q_laws_szKept : (a0 : Int) → (a1 : Int) → (a2 : Int) → (a3 : List Int) → (a4 : Int) → (k : Int → Option β) → Option β) : Rv.Spec β := fun args K => match args with
  | [.v (.agg [.int .i64 a0, .int .i64 a1, .int .i64 a2, .sl 3 (.ints .i64 a3)]), .v (.one (.int .i64 a4))] => q_laws_szKept a0 a1 a2 a3 a4 (fun z5 => K (.v (.one (.int .i64 z5))))
  | _ => none
def S23 {β : Type} (N : Nat) : Rv.Spec β := VS23 N (laws_szKept N)
def VE23 {β : Type} (N : Nat) (q_laws_szIntS : (a0 : List Int) → (a1 : Int) → (k : Int → Option β) → Option β) : Env β := ⟨[(56, VS56 N q_laws_szIntS)], [], [], []⟩
def E23 {β : Type} (N : Nat) : Env β := VE23 N (laws_szIntS N)
def BV_laws_szKept {β : Type} (N : Nat) (q_laws_szIntS : (a0 : List Int) → (a1 : Int) → (k : Int → Option β) → Option β) (a0 : Int) (a1 : Int) (a2 : Int) (a3 : List Int) (a4 : Int) (k : Int → Option β) : Option β :=
q_laws_szIntS a3 a4 fun r6 =>
(cond ((decide (r6 < 0)))
(k (-1))
(k r6))
theorem t_laws_szKept {β : Type} (N : Nat) (a0 : Int) (a1 : Int) (a2 : Int) (a3 : List Int) (a4 : Int) (k : Int → Option β) : laws_szKept N a0 a1 a2 a3 a4 k = BV_laws_szKept N (laws_szIntS N) a0 a1 a2 a3 a4 k := by
  unfold laws_szKept BV_laws_szKept
  rfl
theorem ve23_0 {β : Type} (N : Nat) (q_laws_szIntS : (a0 : List Int) → (a1 : Int) → (k : Int → Option β) → Option β)  (a0 : Int) (a1 : Int) (a2 : Int) (a3 : List Int) (a4 : Int) (K : TV → Option β) : evFn lay (VE23 N q_laws_szIntS) Try.f23 [.v (.agg [.int .i64 a0, .int .i64 a1, .int .i64 a2, .sl 3 (.ints .i64 a3)]), .v (.one (.int .i64 a4))] K = BV_laws_szKept N q_laws_szIntS a0 a1 a2 a3 a4 (fun z5 => K (.v (.one (.int .i64 z5)))) := by kernel_rfl
theorem e23_0 {β : Type} (N : Nat)  (a0 : Int) (a1 : Int) (a2 : Int) (a3 : List Int) (a4 : Int) (K : TV → Option β) : evFn lay (E23 N) Try.f23 [.v (.agg [.int .i64 a0, .int .i64 a1, .int .i64 a2, .sl 3 (.ints .i64 a3)]), .v (.one (.int .i64 a4))] K = laws_szKept N a0 a1 a2 a3 a4 (fun z5 => K (.v (.one (.int .i64 z5)))) := (ve23_0 N (laws_szIntS N) a0 a1 a2 a3 a4 K).trans (t_laws_szKept N a0 a1 a2 a3 a4 (fun z5 => K (.v (.one (.int .i64 z5))))).symm
theorem o23 {β : Type} (N : Nat) : SpecOK (β := β) Try.prog 23 (S23 N) := by
  refine spec_of lay_ok mixed (E := E23 N) (specs_loops (specs_cons (o56 N) specs_nil)) muts_nil gs_nil Try.func23 (by kernel_rfl) 0 (by kernel_rfl) trivial fun args K r h => ?_
  unfold S23 VS23 at h
  split at h
  · exact (e23_0 N _ _ _ _ _ _).trans h
  · cases h
def VS13 {β : Type} (N : Nat) (q_laws_toTable : (a0 : Int) → (a1 : Int) → (k : Int → Int → Option β) → Option β) : Rv.Spec β := fun args K => match args with
  | [.v (.agg [.int .i64 a0, .int .i64 a1])] => q_laws_toTable a0 a1 (fun z2 z3 => K (.v (.agg [.int .i64 z2, .int .i64 z3])))
  | _ => none
def S13 {β : Type} (N : Nat) : Rv.Spec β := VS13 N (laws_toTable N)
def VE13 {β : Type} (N : Nat) : Env β := ⟨[], [], [], []⟩
def E13 {β : Type} (N : Nat) : Env β := VE13 N
def BV_laws_toTable {β : Type} (N : Nat) (a0 : Int) (a1 : Int) (k : Int → Int → Option β) : Option β :=
k a0 a1
theorem t_laws_toTable {β : Type} (N : Nat) (a0 : Int) (a1 : Int) (k : Int → Int → Option β) : laws_toTable N a0 a1 k = BV_laws_toTable N a0 a1 k := by
  unfold laws_toTable BV_laws_toTable
  rfl
theorem ve13_0 {β : Type} (N : Nat)  (a0 : Int) (a1 : Int) (K : TV → Option β) : evFn lay (VE13 N) Try.f13 [.v (.agg [.int .i64 a0, .int .i64 a1])] K = BV_laws_toTable N a0 a1 (fun z2 z3 => K (.v (.agg [.int .i64 z2, .int .i64 z3]))) := by kernel_rfl
theorem e13_0 {β : Type} (N : Nat)  (a0 : Int) (a1 : Int) (K : TV → Option β) : evFn lay (E13 N) Try.f13 [.v (.agg [.int .i64 a0, .int .i64 a1])] K = laws_toTable N a0 a1 (fun z2 z3 => K (.v (.agg [.int .i64 z2, .int .i64 z3]))) := (ve13_0 N a0 a1 K).trans (t_laws_toTable N a0 a1 (fun z2 z3 => K (.v (.agg [.int .i64 z2, .int .i64 z3])))).symm
theorem o13 {β : Type} (N : Nat) : SpecOK (β := β) Try.prog 13 (S13 N) := by
  refine spec_of lay_ok mixed (E := E13 N) (specs_loops specs_nil) muts_nil gs_nil Try.func13 (by kernel_rfl) 0 (by kernel_rfl) trivial fun args K r h => ?_
  unfold S13 VS13 at h
  split at h
  · exact (e13_0 N _ _ _).trans h
  · cases h
def VS35 {β : Type} (N : Nat) (q_laws_toIntS : (a0 : List Int) → (k : List Int → Option β) → Option β) : Rv.Spec β := fun args K => match args with
  | [.v (.one (.sl 3 (.ints .i64 a0)))] => q_laws_toIntS a0 (fun z1 => K (.v (.one (.sl 3 (.ints .i64 z1)))))
  | _ => none
def S35 {β : Type} (N : Nat) : Rv.Spec β := VS35 N (laws_toIntS N)
def h35_0_0  (v0 : List Int) (v1 : Int) (v2 : List Int) : St := ⟨.v (.one (.sl 3 (.ints .i64 v0))) :: .v (.one .und) :: .v (.one .und) :: .v (.one (.row 0)) :: .v (.one (.int .i64 v1)) :: .v (.one .und) :: .v (.one .und) :: .v (.one .und) :: .v (.one .und) :: .v (.one .und) :: .v (.one .und) :: .v (.one .und) :: .v (.one .und) :: .v (.one .und) :: .v (.one .und) :: .v (.one .und) :: .v (.one .und) :: .v (.one .und) :: .v (.one .und) :: .v (.one .und) :: .v (.one .und) :: .v (.one .und) :: [], [.row 3 (.ints .i64 v2)]⟩
def x35_0_0_k0  (y0 : List Int) : St := ⟨.v (.one .und) :: .v (.one .und) :: .v (.one .und) :: .v (.one (.row 0)) :: .v (.one .und) :: .v (.one .und) :: .v (.one .und) :: .v (.one .und) :: .v (.one .und) :: .v (.one .und) :: .v (.one .und) :: .v (.one .und) :: .v (.one .und) :: .v (.one .und) :: .v (.one .und) :: .v (.one .und) :: .v (.one .und) :: .v (.one .und) :: .v (.one .und) :: .v (.one .und) :: .v (.one .und) :: .v (.one .und) :: [], [.row 3 (.ints .i64 y0)]⟩
theorem fl35_0_0 (s : St) : refSt (h35_0_0 [] 0 []) s = h35_0_0 (rInts (rowV (oneA (vT (nx tund s.tmps 0))))) (intS (oneA (vT (nx tund s.tmps 4)))) (rInts (rowB_ (nx .dead s.blks 0))) := by kernel_rfl
def VLS35_0 {β : Type} (N : Nat) (q_laws_toIntS_l0 : Nat → List Int → Int → List Int → (List Int → Option β) → Option β) : LSpec β := fun s K => cond (shpSt (h35_0_0 [] 0 []) s) ((fun (v0 : List Int) (v1 : Int) (v2 : List Int) => q_laws_toIntS_l0  N v0 v1 v2 (fun y0 => K (.exit 0) (x35_0_0_k0  y0))) (rInts (rowV (oneA (vT (nx tund s.tmps 0))))) (intS (oneA (vT (nx tund s.tmps 4)))) (rInts (rowB_ (nx .dead s.blks 0)))) (none)
def LS35_0 {β : Type} (N : Nat) : LSpec β := VLS35_0 N (laws_toIntS_l0 N)
def VE35 {β : Type} (N : Nat) (q_laws_toIntS_l0 : Nat → List Int → Int → List Int → (List Int → Option β) → Option β) : Env β := ⟨[], [], [(0, VLS35_0 N q_laws_toIntS_l0)], []⟩
def E35 {β : Type} (N : Nat) : Env β := VE35 N (laws_toIntS_l0 N)
def BV_laws_toIntS_l0b {β : Type} (N : Nat)  (v0 : List Int) (v1 : Int) (v2 : List Int) (rec_ : List Int → Int → List Int → Option β) (k0 : List Int → Option β) : Option β :=
(cond ((decide (v1 < (v0.length : Int))))
((gd ((decide (0 ≤ v1)))
((gd ((decide (v1 < (v0.length : Int))))
((gd ((decide (0 ≤ v1)))
((gd ((decide (v1 < (v2.length : Int))))
(rec_ v0 ((w64 (v1 + 1))) ((wr v2 v1 (rd 0 v0 v1))))))))))))
(k0 v2))
theorem t_laws_toIntS_l0b {β : Type} (N : Nat)  (v0 : List Int) (v1 : Int) (v2 : List Int) (rec_ : List Int → Int → List Int → Option β) (k0 : List Int → Option β) : laws_toIntS_l0b N v0 v1 v2 rec_ k0 = BV_laws_toIntS_l0b N v0 v1 v2 rec_ k0 := by
  unfold laws_toIntS_l0b BV_laws_toIntS_l0b
  rfl
theorem vst35_0_0 {β : Type} (N : Nat) (q_laws_toIntS_l0 : Nat → List Int → Int → List Int → (List Int → Option β) → Option β)  (v0 : List Int) (v1 : Int) (v2 : List Int) (rec_ : St → Option β) (K : Exit → St → Option β) :
    ev lay (VE35 N q_laws_toIntS_l0) (retMask Try.f35) (lp Try.f35 0).body (lp Try.f35 0).ex ((lp Try.f35 0).lv (retMask Try.f35)) (h35_0_0  v0 v1 v2) (nextR (fun s' => rec_ (s'.tidy ((lp Try.f35 0).lv (retMask Try.f35)))) K) = BV_laws_toIntS_l0b N  v0 v1 v2 (fun v0 v1 v2 => rec_ (h35_0_0  v0 v1 v2)) (fun y0 => K (.exit 0) (x35_0_0_k0  y0)) := by kernel_rfl
theorem st35_0_0 {β : Type} (N : Nat)  (v0 : List Int) (v1 : Int) (v2 : List Int) (rec_ : St → Option β) (K : Exit → St → Option β) :
    ev lay (E35 N) (retMask Try.f35) (lp Try.f35 0).body (lp Try.f35 0).ex ((lp Try.f35 0).lv (retMask Try.f35)) (h35_0_0  v0 v1 v2) (nextR (fun s' => rec_ (s'.tidy ((lp Try.f35 0).lv (retMask Try.f35)))) K) = laws_toIntS_l0b N  v0 v1 v2 (fun v0 v1 v2 => rec_ (h35_0_0  v0 v1 v2)) (fun y0 => K (.exit 0) (x35_0_0_k0  y0)) := (vst35_0_0 N (laws_toIntS_l0 N) v0 v1 v2 rec_ K).trans (t_laws_toIntS_l0b N  v0 v1 v2 (fun v0 v1 v2 => rec_ (h35_0_0  v0 v1 v2)) (fun y0 => K (.exit 0) (x35_0_0_k0  y0))).symm
theorem ro35_0_0 {β : Type} (N : Nat)  (K : Exit → St → Option β) : ∀ (F : Nat) (v0 : List Int) (v1 : Int) (v2 : List Int), (lp Try.f35 0).rounds lay (E35 N) (retMask Try.f35) F (h35_0_0  v0 v1 v2) K = laws_toIntS_l0 N  F v0 v1 v2 (fun y0 => K (.exit 0) (x35_0_0_k0  y0)) := by
  intro F
  induction F with
  | zero => intros; rfl
  | succ F ih =>
    intros
    rw [rounds_next]
    refine (st35_0_0 N  _ _ _ (fun s => (lp Try.f35 0).rounds lay (E35 N) (retMask Try.f35) F s K) K).trans ?_
    simp only [ih]
    rfl
theorem lk35_0 {β : Type} (N : Nat) : lookL (E35 (β := β) N).loops (lp Try.f35 0).id = LS35_0 N := by kernel_rfl
theorem rk35_0 {β : Type} (N : Nat) : RoundsOK lay (E35 (β := β) N) (retMask Try.f35) (lp Try.f35 0) := by
  intro s K r h
  rw [lk35_0] at h
  unfold LS35_0 VLS35_0 at h
  cases hb : shpSt (h35_0_0 [] 0 []) s with
  | true =>
    rw [hb, cond_true] at h
    exact ⟨N, by rw [← shpSt_ref hb, fl35_0_0 s]; exact (ro35_0_0 N  K N (rInts (rowV (oneA (vT (nx tund s.tmps 0))))) (intS (oneA (vT (nx tund s.tmps 4)))) (rInts (rowB_ (nx .dead s.blks 0)))).trans h⟩
  | false =>
  rw [hb, cond_false] at h
  clear hb
  cases h
def BV_laws_toIntS {β : Type} (N : Nat) (q_laws_toIntS_l0 : Nat → List Int → Int → List Int → (List Int → Option β) → Option β) (a0 : List Int) (k : List Int → Option β) : Option β :=
(gd ((decide (0 ≤ (a0.length : Int))))
((gd ((decide ((a0.length : Int) ≤ (a0.length : Int))))
((gd ((decide (8 * (a0.length : Int) ≤ 281474976710656)))
(q_laws_toIntS_l0  N a0 0 ((List.replicate (Int.toNat (a0.length : Int)) (0 : Int))) (fun e2_0 =>
k e2_0)))))))
theorem t_laws_toIntS {β : Type} (N : Nat) (a0 : List Int) (k : List Int → Option β) : laws_toIntS N a0 k = BV_laws_toIntS N (laws_toIntS_l0 N) a0 k := by
  unfold laws_toIntS BV_laws_toIntS
  rfl
theorem ve35_0 {β : Type} (N : Nat) (q_laws_toIntS_l0 : Nat → List Int → Int → List Int → (List Int → Option β) → Option β)  (a0 : List Int) (K : TV → Option β) : evFn lay (VE35 N q_laws_toIntS_l0) Try.f35 [.v (.one (.sl 3 (.ints .i64 a0)))] K = BV_laws_toIntS N q_laws_toIntS_l0 a0 (fun z1 => K (.v (.one (.sl 3 (.ints .i64 z1))))) := by kernel_rfl
theorem e35_0 {β : Type} (N : Nat)  (a0 : List Int) (K : TV → Option β) : evFn lay (E35 N) Try.f35 [.v (.one (.sl 3 (.ints .i64 a0)))] K = laws_toIntS N a0 (fun z1 => K (.v (.one (.sl 3 (.ints .i64 z1))))) := (ve35_0 N (laws_toIntS_l0 N) a0 K).trans (t_laws_toIntS N a0 (fun z1 => K (.v (.one (.sl 3 (.ints .i64 z1)))))).symm
theorem o35 {β : Type} (N : Nat) : SpecOK (β := β) Try.prog 35 (S35 N) := by
  refine spec_of lay_ok mixed (E := E35 N) (specs_loops specs_nil) muts_nil gs_nil Try.func35 (by kernel_rfl) 1 (by kernel_rfl) ⟨trivial, rk35_0 N⟩ fun args K r h => ?_
  unfold S35 VS35 at h
  split at h
  · exact (e35_0 N _ _).trans h
  · cases h
def VS25 {β : Type} (N : Nat) (q_laws_toKept : (a0 : Int) → (a1 : Int) → (a2 : Int) → (a3 : List Int) → (k : Int → Int → Int → List Int → Option β) → Option β) : Rv.Spec β := fun args K => match args with
  | [.v (.agg [.int .i64 a0, .int .i64 a1, .int .i64 a2, .sl 3 (.ints .i64 a3)])] => q_laws_toKept a0 a1 a2 a3 (fun z4 z5 z6 z7 => K (.v (.agg [.int .i64 z4, .int .i64 z5, .int .i64 z6, .sl 3 (.ints .i64 z7)])))
  | _ => none
def S25 {β : Type} (N : Nat) : Rv.Spec β := VS25 N (laws_toKept N)
def VE25 {β : Type} (N : Nat) (q_laws_toTable : (a0 : Int) → (a1 : Int) → (k : Int → Int → Option β) → Option β) (q_laws_toIntS : (a0 : List Int) → (k : List Int → Option β) → Option β) : Env β := ⟨[(13, VS13 N q_laws_toTable), (35, VS35 N q_laws_toIntS)], [], [], []⟩
def E25 {β : Type} (N : Nat) : Env β := VE25 N (laws_toTable N) (laws_toIntS N)
def BV_laws_toKept {β : Type} (N : Nat) (q_laws_toTable : (a0 : Int) → (a1 : Int) → (k : Int → Int → Option β) → Option β) (q_laws_toIntS : (a0 : List Int) → (k : List Int → Option β) → Option β) (a0 : Int) (a1 : Int) (a2 : Int) (a3 : List Int) (k : Int → Int → Int → List Int → Option β) : Option β :=
q_laws_toTable a0 a1 fun r8 r9 =>
q_laws_toIntS a3 fun r10 =>
k r8 r9 a2 r10
theorem t_laws_toKept {β : Type} (N : Nat) (a0 : Int) (a1 : Int) (a2 : Int) (a3 : List Int) (k : Int → Int → Int → List Int → Option β) : laws_toKept N a0 a1 a2 a3 k = BV_laws_toKept N (laws_toTable N) (laws_toIntS N) a0 a1 a2 a3 k := by
  unfold laws_toKept BV_laws_toKept
  rfl
theorem ve25_0 {β : Type} (N : Nat) (q_laws_toTable : (a0 : Int) → (a1 : Int) → (k : Int → Int → Option β) → Option β) (q_laws_toIntS : (a0 : List Int) → (k : List Int → Option β) → Option β)  (a0 : Int) (a1 : Int) (a2 : Int) (a3 : List Int) (K : TV → Option β) : evFn lay (VE25 N q_laws_toTable q_laws_toIntS) Try.f25 [.v (.agg [.int .i64 a0, .int .i64 a1, .int .i64 a2, .sl 3 (.ints .i64 a3)])] K = BV_laws_toKept N q_laws_toTable q_laws_toIntS a0 a1 a2 a3 (fun z4 z5 z6 z7 => K (.v (.agg [.int .i64 z4, .int .i64 z5, .int .i64 z6, .sl 3 (.ints .i64 z7)]))) := by kernel_rfl
theorem e25_0 {β : Type} (N : Nat)  (a0 : Int) (a1 : Int) (a2 : Int) (a3 : List Int) (K : TV → Option β) : evFn lay (E25 N) Try.f25 [.v (.agg [.int .i64 a0, .int .i64 a1, .int .i64 a2, .sl 3 (.ints .i64 a3)])] K = laws_toKept N a0 a1 a2 a3 (fun z4 z5 z6 z7 => K (.v (.agg [.int .i64 z4, .int .i64 z5, .int .i64 z6, .sl 3 (.ints .i64 z7)]))) := (ve25_0 N (laws_toTable N) (laws_toIntS N) a0 a1 a2 a3 K).trans (t_laws_toKept N a0 a1 a2 a3 (fun z4 z5 z6 z7 => K (.v (.agg [.int .i64 z4, .int .i64 z5, .int .i64 z6, .sl 3 (.ints .i64 z7)])))).symm
theorem o25 {β : Type} (N : Nat) : SpecOK (β := β) Try.prog 25 (S25 N) := by
  refine spec_of lay_ok mixed (E := E25 N) (specs_loops (specs_cons (o13 N) (specs_cons (o35 N) specs_nil))) muts_nil gs_nil Try.func25 (by kernel_rfl) 0 (by kernel_rfl) trivial fun args K r h => ?_
  unfold S25 VS25 at h
  split at h
  · exact (e25_0 N _ _ _ _ _).trans h
  · cases h
def VS73 {β : Type} (N : Nat) (q_spec_l1In : (a0 : Int) → (a1 : Int) → (a2 : Int) → (k : Bool → Option β) → Option β) : Rv.Spec β := fun args K => match args with
  | [.v (.one (.int .i64 a0)), .v (.one (.int .i64 a1)), .v (.one (.int .i64 a2))] => q_spec_l1In a0 a1 a2 (fun z3 => K (.v (.one (.bool z3))))
  | _ => none
def S73 {β : Type} (N : Nat) : Rv.Spec β := VS73 N (spec_l1In N)
def VE73 {β : Type} (N : Nat) : Env β := ⟨[], [], [], []⟩
def E73 {β : Type} (N : Nat) : Env β := VE73 N
def BV_spec_l1In {β : Type} (N : Nat) (a0 : Int) (a1 : Int) (a2 : Int) (k : Bool → Option β) : Option β :=
(cond ((decide (a0 ≥ a1)))
(k ((decide (a0 ≤ a2))))
(k false))
theorem t_spec_l1In {β : Type} (N : Nat) (a0 : Int) (a1 : Int) (a2 : Int) (k : Bool → Option β) : spec_l1In N a0 a1 a2 k = BV_spec_l1In N a0 a1 a2 k := by
  unfold spec_l1In BV_spec_l1In
  rfl
theorem ve73_0 {β : Type} (N : Nat)  (a0 : Int) (a1 : Int) (a2 : Int) (K : TV → Option β) : evFn lay (VE73 N) Try.f73 [.v (.one (.int .i64 a0)), .v (.one (.int .i64 a1)), .v (.one (.int .i64 a2))] K = BV_spec_l1In N a0 a1 a2 (fun z3 => K (.v (.one (.bool z3)))) := by kernel_rfl
theorem e73_0 {β : Type} (N : Nat)  (a0 : Int) (a1 : Int) (a2 : Int) (K : TV → Option β) : evFn lay (E73 N) Try.f73 [.v (.one (.int .i64 a0)), .v (.one (.int .i64 a1)), .v (.one (.int .i64 a2))] K = spec_l1In N a0 a1 a2 (fun z3 => K (.v (.one (.bool z3)))) := (ve73_0 N a0 a1 a2 K).trans (t_spec_l1In N a0 a1 a2 (fun z3 => K (.v (.one (.bool z3))))).symm
theorem o73 {β : Type} (N : Nat) : SpecOK (β := β) Try.prog 73 (S73 N) := by
  refine spec_of lay_ok mixed (E := E73 N) (specs_loops specs_nil) muts_nil gs_nil Try.func73 (by kernel_rfl) 0 (by kernel_rfl) trivial fun args K r h => ?_
  unfold S73 VS73 at h
  split at h
  · exact (e73_0 N _ _ _ _).trans h
  · cases h
def VS43 {β : Type} (N : Nat) (q_spec_IsTable : (a0 : Int) → (a1 : Int) → (k : Bool → Option β) → Option β) : Rv.Spec β := fun args K => match args with
  | [.v (.agg [.int .i64 a0, .int .i64 a1])] => q_spec_IsTable a0 a1 (fun z2 => K (.v (.one (.bool z2))))
  | _ => none
def S43 {β : Type} (N : Nat) : Rv.Spec β := VS43 N (spec_IsTable N)
def VE43 {β : Type} (N : Nat) (q_spec_l1In : (a0 : Int) → (a1 : Int) → (a2 : Int) → (k : Bool → Option β) → Option β) : Env β := ⟨[(73, VS73 N q_spec_l1In)], [], [], []⟩
def E43 {β : Type} (N : Nat) : Env β := VE43 N (spec_l1In N)
def BV_spec_IsTable {β : Type} (N : Nat) (q_spec_l1In : (a0 : Int) → (a1 : Int) → (a2 : Int) → (k : Bool → Option β) → Option β) (a0 : Int) (a1 : Int) (k : Bool → Option β) : Option β :=
q_spec_l1In a0 0 5 fun r3 =>
(cond r3
((gd ((decide (0 ≤ a0)))
((gd ((decide (0 ≤ (shlI .u64 1 a0))))
(q_spec_l1In a1 0 ((w64 ((shlI .i64 1 (shlI .u64 1 a0)) - 1))) fun r4 =>
k r4)))))
(k false))
theorem t_spec_IsTable {β : Type} (N : Nat) (a0 : Int) (a1 : Int) (k : Bool → Option β) : spec_IsTable N a0 a1 k = BV_spec_IsTable N (spec_l1In N) a0 a1 k := by
  unfold spec_IsTable BV_spec_IsTable
  rfl
theorem ve43_0 {β : Type} (N : Nat) (q_spec_l1In : (a0 : Int) → (a1 : Int) → (a2 : Int) → (k : Bool → Option β) → Option β)  (a0 : Int) (a1 : Int) (K : TV → Option β) : evFn lay (VE43 N q_spec_l1In) Try.f43 [.v (.agg [.int .i64 a0, .int .i64 a1])] K = BV_spec_IsTable N q_spec_l1In a0 a1 (fun z2 => K (.v (.one (.bool z2)))) := by kernel_rfl
theorem e43_0 {β : Type} (N : Nat)  (a0 : Int) (a1 : Int) (K : TV → Option β) : evFn lay (E43 N) Try.f43 [.v (.agg [.int .i64 a0, .int .i64 a1])] K = spec_IsTable N a0 a1 (fun z2 => K (.v (.one (.bool z2)))) := (ve43_0 N (spec_l1In N) a0 a1 K).trans (t_spec_IsTable N a0 a1 (fun z2 => K (.v (.one (.bool z2))))).symm
theorem o43 {β : Type} (N : Nat) : SpecOK (β := β) Try.prog 43 (S43 N) := by
  refine spec_of lay_ok mixed (E := E43 N) (specs_loops (specs_cons (o73 N) specs_nil)) muts_nil gs_nil Try.func43 (by kernel_rfl) 0 (by kernel_rfl) trivial fun args K r h => ?_
  unfold S43 VS43 at h
  split at h
  · exact (e43_0 N _ _ _).trans h
  · cases h
def VS44 {β : Type} (N : Nat) (q_spec_l2Count : (a0 : Int) → (k : Int → Option β) → Option β) : Rv.Spec β := fun args K => match args with
  | [.v (.one (.int .i64 a0))] => q_spec_l2Count a0 (fun z1 => K (.v (.one (.int .i64 z1))))
  | _ => none
def S44 {β : Type} (N : Nat) : Rv.Spec β := VS44 N (spec_l2Count N)
def h44_0_0  (v0 : Int) (v1 : Int) : St := ⟨.v (.one .und) :: .v (.one .und) :: .v (.one .und) :: .v (.one (.int .i64 v0)) :: .v (.one (.int .i64 v1)) :: .v (.one .und) :: .v (.one .und) :: .v (.one .und) :: .v (.one .und) :: .v (.one .und) :: .v (.one .und) :: .v (.one .und) :: .v (.one .und) :: .v (.one .und) :: .v (.one .und) :: [], []⟩
def x44_0_0_k0  (y0 : Int) : St := ⟨.v (.one .und) :: .v (.one .und) :: .v (.one .und) :: .v (.one (.int .i64 y0)) :: .v (.one .und) :: .v (.one .und) :: .v (.one .und) :: .v (.one .und) :: .v (.one .und) :: .v (.one .und) :: .v (.one .und) :: .v (.one .und) :: .v (.one .und) :: .v (.one .und) :: .v (.one .und) :: [], []⟩
theorem fl44_0_0 (s : St) : refSt (h44_0_0 0 0) s = h44_0_0 (intS (oneA (vT (nx tund s.tmps 3)))) (intS (oneA (vT (nx tund s.tmps 4)))) := by kernel_rfl
def VLS44_0 {β : Type} (N : Nat) (q_spec_l2Count_l0 : Nat → Int → Int → (Int → Option β) → Option β) : LSpec β := fun s K => cond (shpSt (h44_0_0 0 0) s) ((fun (v0 : Int) (v1 : Int) => q_spec_l2Count_l0  N v0 v1 (fun y0 => K (.exit 0) (x44_0_0_k0  y0))) (intS (oneA (vT (nx tund s.tmps 3)))) (intS (oneA (vT (nx tund s.tmps 4))))) (none)
def LS44_0 {β : Type} (N : Nat) : LSpec β := VLS44_0 N (spec_l2Count_l0 N)
def VE44 {β : Type} (N : Nat) (q_spec_l2Count_l0 : Nat → Int → Int → (Int → Option β) → Option β) : Env β := ⟨[], [], [(0, VLS44_0 N q_spec_l2Count_l0)], []⟩
def E44 {β : Type} (N : Nat) : Env β := VE44 N (spec_l2Count_l0 N)
def BV_spec_l2Count_l0b {β : Type} (N : Nat)  (v0 : Int) (v1 : Int) (rec_ : Int → Int → Option β) (k0 : Int → Option β) : Option β :=
(cond ((decide (v1 > 0)))
(rec_ ((w64 (v0 + (bits .and .i64 v1 1)))) ((shrI .i64 v1 1)))
(k0 v0))
theorem t_spec_l2Count_l0b {β : Type} (N : Nat)  (v0 : Int) (v1 : Int) (rec_ : Int → Int → Option β) (k0 : Int → Option β) : spec_l2Count_l0b N v0 v1 rec_ k0 = BV_spec_l2Count_l0b N v0 v1 rec_ k0 := by
  unfold spec_l2Count_l0b BV_spec_l2Count_l0b
  rfl
theorem vst44_0_0 {β : Type} (N : Nat) (q_spec_l2Count_l0 : Nat → Int → Int → (Int → Option β) → Option β)  (v0 : Int) (v1 : Int) (rec_ : St → Option β) (K : Exit → St → Option β) :
    ev lay (VE44 N q_spec_l2Count_l0) (retMask Try.f44) (lp Try.f44 0).body (lp Try.f44 0).ex ((lp Try.f44 0).lv (retMask Try.f44)) (h44_0_0  v0 v1) (nextR (fun s' => rec_ (s'.tidy ((lp Try.f44 0).lv (retMask Try.f44)))) K) = BV_spec_l2Count_l0b N  v0 v1 (fun v0 v1 => rec_ (h44_0_0  v0 v1)) (fun y0 => K (.exit 0) (x44_0_0_k0  y0)) := by kernel_rfl
theorem st44_0_0 {β : Type} (N : Nat)  (v0 : Int) (v1 : Int) (rec_ : St → Option β) (K : Exit → St → Option β) :
    ev lay (E44 N) (retMask Try.f44) (lp Try.f44 0).body (lp Try.f44 0).ex ((lp Try.f44 0).lv (retMask Try.f44)) (h44_0_0  v0 v1) (nextR (fun s' => rec_ (s'.tidy ((lp Try.f44 0).lv (retMask Try.f44)))) K) = spec_l2Count_l0b N  v0 v1 (fun v0 v1 => rec_ (h44_0_0  v0 v1)) (fun y0 => K (.exit 0) (x44_0_0_k0  y0)) := (vst44_0_0 N (spec_l2Count_l0 N) v0 v1 rec_ K).trans (t_spec_l2Count_l0b N  v0 v1 (fun v0 v1 => rec_ (h44_0_0  v0 v1)) (fun y0 => K (.exit 0) (x44_0_0_k0  y0))).symm
theorem ro44_0_0 {β : Type} (N : Nat)  (K : Exit → St → Option β) : ∀ (F : Nat) (v0 : Int) (v1 : Int), (lp Try.f44 0).rounds lay (E44 N) (retMask Try.f44) F (h44_0_0  v0 v1) K = spec_l2Count_l0 N  F v0 v1 (fun y0 => K (.exit 0) (x44_0_0_k0  y0)) := by
  intro F
  induction F with
  | zero => intros; rfl
  | succ F ih =>
    intros
    rw [rounds_next]
    refine (st44_0_0 N  _ _ (fun s => (lp Try.f44 0).rounds lay (E44 N) (retMask Try.f44) F s K) K).trans ?_
    simp only [ih]
    rfl
theorem lk44_0 {β : Type} (N : Nat) : lookL (E44 (β := β) N).loops (lp Try.f44 0).id = LS44_0 N := by kernel_rfl
theorem rk44_0 {β : Type} (N : Nat) : RoundsOK lay (E44 (β := β) N) (retMask Try.f44) (lp Try.f44 0) := by
  intro s K r h
  rw [lk44_0] at h
  unfold LS44_0 VLS44_0 at h
  cases hb : shpSt (h44_0_0 0 0) s with
  | true =>
    rw [hb, cond_true] at h
    exact ⟨N, by rw [← shpSt_ref hb, fl44_0_0 s]; exact (ro44_0_0 N  K N (intS (oneA (vT (nx tund s.tmps 3)))) (intS (oneA (vT (nx tund s.tmps 4))))).trans h⟩
  | false =>
  rw [hb, cond_false] at h
  clear hb
  cases h
def BV_spec_l2Count {β : Type} (N : Nat) (q_spec_l2Count_l0 : Nat → Int → Int → (Int → Option β) → Option β) (a0 : Int) (k : Int → Option β) : Option β :=
q_spec_l2Count_l0  N 0 a0 (fun e2_0 =>
k e2_0)
theorem t_spec_l2Count {β : Type} (N : Nat) (a0 : Int) (k : Int → Option β) : spec_l2Count N a0 k = BV_spec_l2Count N (spec_l2Count_l0 N) a0 k := by
  unfold spec_l2Count BV_spec_l2Count
  rfl
theorem ve44_0 {β : Type} (N : Nat) (q_spec_l2Count_l0 : Nat → Int → Int → (Int → Option β) → Option β)  (a0 : Int) (K : TV → Option β) : evFn lay (VE44 N q_spec_l2Count_l0) Try.f44 [.v (.one (.int .i64 a0))] K = BV_spec_l2Count N q_spec_l2Count_l0 a0 (fun z1 => K (.v (.one (.int .i64 z1)))) := by kernel_rfl
theorem e44_0 {β : Type} (N : Nat)  (a0 : Int) (K : TV → Option β) : evFn lay (E44 N) Try.f44 [.v (.one (.int .i64 a0))] K = spec_l2Count N a0 (fun z1 => K (.v (.one (.int .i64 z1)))) := (ve44_0 N (spec_l2Count_l0 N) a0 K).trans (t_spec_l2Count N a0 (fun z1 => K (.v (.one (.int .i64 z1))))).symm
theorem o44 {β : Type} (N : Nat) : SpecOK (β := β) Try.prog 44 (S44 N) := by
  refine spec_of lay_ok mixed (E := E44 N) (specs_loops specs_nil) muts_nil gs_nil Try.func44 (by kernel_rfl) 1 (by kernel_rfl) ⟨trivial, rk44_0 N⟩ fun args K r h => ?_
  unfold S44 VS44 at h
  split at h
  · exact (e44_0 N _ _).trans h
  · cases h
def VS45 {β : Type} (N : Nat) (q_spec_InfluenceOf : (a0 : Int) → (a1 : Int) → (a2 : Int) → (k : Int → Option β) → Option β) : Rv.Spec β := fun args K => match args with
  | [.v (.agg [.int .i64 a0, .int .i64 a1]), .v (.one (.int .i64 a2))] => q_spec_InfluenceOf a0 a1 a2 (fun z3 => K (.v (.one (.int .i64 z3))))
  | _ => none
def S45 {β : Type} (N : Nat) : Rv.Spec β := VS45 N (spec_InfluenceOf N)
def h45_0_0  (v0 : Int) (v1 : Int) (v2 : Int) (v3 : Int) (v4 : Int) : St := ⟨.v (.one .und) :: .v (.one (.int .i64 v0)) :: .v (.one (.ptr 0 0)) :: .v (.one .und) :: .v (.one .und) :: .v (.one (.int .i64 v1)) :: .v (.one (.int .i64 v2)) :: .v (.one .und) :: .v (.one .und) :: .v (.one .und) :: .v (.one .und) :: .v (.one .und) :: .v (.one .und) :: .v (.one .und) :: .v (.one .und) :: .v (.one .und) :: .v (.one .und) :: .v (.one .und) :: .v (.one .und) :: .v (.one .und) :: .v (.one .und) :: .v (.one .und) :: .v (.one .und) :: .v (.one .und) :: .v (.one .und) :: .v (.one .und) :: .v (.one .und) :: .v (.one .und) :: .v (.one .und) :: .v (.one .und) :: .v (.one .und) :: .v (.one .und) :: .v (.one .und) :: .v (.one .und) :: .v (.one .und) :: .v (.one .und) :: .v (.one .und) :: .v (.one .und) :: .v (.one .und) :: .v (.one .und) :: .v (.one .und) :: [], [.cells 24 [.int .i64 v3, .int .i64 v4]]⟩
def x45_0_0_k0  (y0 : Int) : St := ⟨.v (.one .und) :: .v (.one .und) :: .v (.one .und) :: .v (.one .und) :: .v (.one .und) :: .v (.one (.int .i64 y0)) :: .v (.one .und) :: .v (.one .und) :: .v (.one .und) :: .v (.one .und) :: .v (.one .und) :: .v (.one .und) :: .v (.one .und) :: .v (.one .und) :: .v (.one .und) :: .v (.one .und) :: .v (.one .und) :: .v (.one .und) :: .v (.one .und) :: .v (.one .und) :: .v (.one .und) :: .v (.one .und) :: .v (.one .und) :: .v (.one .und) :: .v (.one .und) :: .v (.one .und) :: .v (.one .und) :: .v (.one .und) :: .v (.one .und) :: .v (.one .und) :: .v (.one .und) :: .v (.one .und) :: .v (.one .und) :: .v (.one .und) :: .v (.one .und) :: .v (.one .und) :: .v (.one .und) :: .v (.one .und) :: .v (.one .und) :: .v (.one .und) :: .v (.one .und) :: [], []⟩
theorem fl45_0_0 (s : St) : refSt (h45_0_0 0 0 0 0 0) s = h45_0_0 (intS (oneA (vT (nx tund s.tmps 1)))) (intS (oneA (vT (nx tund s.tmps 5)))) (intS (oneA (vT (nx tund s.tmps 6)))) (intS (nx .und (cellsB (nx .dead s.blks 0)) 0)) (intS (nx .und (cellsB (nx .dead s.blks 0)) 1)) := by kernel_rfl
def VLS45_0 {β : Type} (N : Nat) (q_spec_InfluenceOf_l0 : Nat → Int → Int → Int → Int → Int → (Int → Option β) → Option β) : LSpec β := fun s K => cond (shpSt (h45_0_0 0 0 0 0 0) s) ((fun (v0 : Int) (v1 : Int) (v2 : Int) (v3 : Int) (v4 : Int) => q_spec_InfluenceOf_l0  N v0 v1 v2 v3 v4 (fun y0 => K (.exit 0) (x45_0_0_k0  y0))) (intS (oneA (vT (nx tund s.tmps 1)))) (intS (oneA (vT (nx tund s.tmps 5)))) (intS (oneA (vT (nx tund s.tmps 6)))) (intS (nx .und (cellsB (nx .dead s.blks 0)) 0)) (intS (nx .und (cellsB (nx .dead s.blks 0)) 1))) (none)
def LS45_0 {β : Type} (N : Nat) : LSpec β := VLS45_0 N (spec_InfluenceOf_l0 N)
def VE45 {β : Type} (N : Nat) (q_spec_IsTable : (a0 : Int) → (a1 : Int) → (k : Bool → Option β) → Option β) (q_spec_l1In : (a0 : Int) → (a1 : Int) → (a2 : Int) → (k : Bool → Option β) → Option β) (q_spec_InfluenceOf_l0 : Nat → Int → Int → Int → Int → Int → (Int → Option β) → Option β) : Env β := ⟨[(43, VS43 N q_spec_IsTable), (73, VS73 N q_spec_l1In)], [], [(0, VLS45_0 N q_spec_InfluenceOf_l0)], []⟩
def E45 {β : Type} (N : Nat) : Env β := VE45 N (spec_IsTable N) (spec_l1In N) (spec_InfluenceOf_l0 N)
def BV_spec_InfluenceOf_l0b {β : Type} (N : Nat)  (v0 : Int) (v1 : Int) (v2 : Int) (v3 : Int) (v4 : Int) (rec_ : Int → Int → Int → Int → Int → Option β) (k0 : Int → Option β) : Option β :=
(gd ((decide (0 ≤ v3)))
((cond ((decide (v2 < (shlI .i64 1 v3))))
((gd ((decide (0 ≤ v2)))
((gd ((decide (0 ≤ v0)))
((gd ((decide (0 ≤ (bits .xor .i64 v2 (shlI .i64 1 v0)))))
(rec_ v0 ((w64 (v1 + (bits .and .i64 (bits .xor .i64 (shrI .i64 v4 v2) (shrI .i64 v4 (bits .xor .i64 v2 (shlI .i64 1 v0)))) 1)))) ((w64 (v2 + 1))) v3 v4)))))))
(k0 v1))))
theorem t_spec_InfluenceOf_l0b {β : Type} (N : Nat)  (v0 : Int) (v1 : Int) (v2 : Int) (v3 : Int) (v4 : Int) (rec_ : Int → Int → Int → Int → Int → Option β) (k0 : Int → Option β) : spec_InfluenceOf_l0b N v0 v1 v2 v3 v4 rec_ k0 = BV_spec_InfluenceOf_l0b N v0 v1 v2 v3 v4 rec_ k0 := by
  unfold spec_InfluenceOf_l0b BV_spec_InfluenceOf_l0b
  rfl
theorem vst45_0_0 {β : Type} (N : Nat) (q_spec_IsTable : (a0 : Int) → (a1 : Int) → (k : Bool → Option β) → Option β) (q_spec_l1In : (a0 : Int) → (a1 : Int) → (a2 : Int) → (k : Bool → Option β) → Option β) (q_spec_InfluenceOf_l0 : Nat → Int → Int → Int → Int → Int → (Int → Option β) → Option β)  (v0 : Int) (v1 : Int) (v2 : Int) (v3 : Int) (v4 : Int) (rec_ : St → Option β) (K : Exit → St → Option β) :
    ev lay (VE45 N q_spec_IsTable q_spec_l1In q_spec_InfluenceOf_l0) (retMask Try.f45) (lp Try.f45 0).body (lp Try.f45 0).ex ((lp Try.f45 0).lv (retMask Try.f45)) (h45_0_0  v0 v1 v2 v3 v4) (nextR (fun s' => rec_ (s'.tidy ((lp Try.f45 0).lv (retMask Try.f45)))) K) = BV_spec_InfluenceOf_l0b N  v0 v1 v2 v3 v4 (fun v0 v1 v2 v3 v4 => rec_ (h45_0_0  v0 v1 v2 v3 v4)) (fun y0 => K (.exit 0) (x45_0_0_k0  y0)) := by kernel_rfl
theorem st45_0_0 {β : Type} (N : Nat)  (v0 : Int) (v1 : Int) (v2 : Int) (v3 : Int) (v4 : Int) (rec_ : St → Option β) (K : Exit → St → Option β) :
    ev lay (E45 N) (retMask Try.f45) (lp Try.f45 0).body (lp Try.f45 0).ex ((lp Try.f45 0).lv (retMask Try.f45)) (h45_0_0  v0 v1 v2 v3 v4) (nextR (fun s' => rec_ (s'.tidy ((lp Try.f45 0).lv (retMask Try.f45)))) K) = spec_InfluenceOf_l0b N  v0 v1 v2 v3 v4 (fun v0 v1 v2 v3 v4 => rec_ (h45_0_0  v0 v1 v2 v3 v4)) (fun y0 => K (.exit 0) (x45_0_0_k0  y0)) := (vst45_0_0 N (spec_IsTable N) (spec_l1In N) (spec_InfluenceOf_l0 N) v0 v1 v2 v3 v4 rec_ K).trans (t_spec_InfluenceOf_l0b N  v0 v1 v2 v3 v4 (fun v0 v1 v2 v3 v4 => rec_ (h45_0_0  v0 v1 v2 v3 v4)) (fun y0 => K (.exit 0) (x45_0_0_k0  y0))).symm
theorem ro45_0_0 {β : Type} (N : Nat)  (K : Exit → St → Option β) : ∀ (F : Nat) (v0 : Int) (v1 : Int) (v2 : Int) (v3 : Int) (v4 : Int), (lp Try.f45 0).rounds lay (E45 N) (retMask Try.f45) F (h45_0_0  v0 v1 v2 v3 v4) K = spec_InfluenceOf_l0 N  F v0 v1 v2 v3 v4 (fun y0 => K (.exit 0) (x45_0_0_k0  y0)) := by
  intro F
  induction F with
  | zero => intros; rfl
  | succ F ih =>
    intros
    rw [rounds_next]
    refine (st45_0_0 N  _ _ _ _ _ (fun s => (lp Try.f45 0).rounds lay (E45 N) (retMask Try.f45) F s K) K).trans ?_
    simp only [ih]
    rfl
theorem lk45_0 {β : Type} (N : Nat) : lookL (E45 (β := β) N).loops (lp Try.f45 0).id = LS45_0 N := by kernel_rfl
theorem rk45_0 {β : Type} (N : Nat) : RoundsOK lay (E45 (β := β) N) (retMask Try.f45) (lp Try.f45 0) := by
  intro s K r h
  rw [lk45_0] at h
  unfold LS45_0 VLS45_0 at h
  cases hb : shpSt (h45_0_0 0 0 0 0 0) s with
  | true =>
    rw [hb, cond_true] at h
    exact ⟨N, by rw [← shpSt_ref hb, fl45_0_0 s]; exact (ro45_0_0 N  K N (intS (oneA (vT (nx tund s.tmps 1)))) (intS (oneA (vT (nx tund s.tmps 5)))) (intS (oneA (vT (nx tund s.tmps 6)))) (intS (nx .und (cellsB (nx .dead s.blks 0)) 0)) (intS (nx .und (cellsB (nx .dead s.blks 0)) 1))).trans h⟩
  | false =>
  rw [hb, cond_false] at h
  clear hb
  cases h
def BV_spec_InfluenceOf {β : Type} (N : Nat) (q_spec_IsTable : (a0 : Int) → (a1 : Int) → (k : Bool → Option β) → Option β) (q_spec_l1In : (a0 : Int) → (a1 : Int) → (a2 : Int) → (k : Bool → Option β) → Option β) (q_spec_InfluenceOf_l0 : Nat → Int → Int → Int → Int → Int → (Int → Option β) → Option β) (a0 : Int) (a1 : Int) (a2 : Int) (k : Int → Option β) : Option β :=
q_spec_IsTable a0 a1 fun r4 =>
(cond (!r4)
(k (-1))
(q_spec_l1In a2 0 ((w64 (a0 - 1))) fun r5 =>
(cond (!r5)
(k (-1))
(q_spec_InfluenceOf_l0  N a2 0 0 a0 a1 (fun e6_0 =>
k e6_0)))))
theorem t_spec_InfluenceOf {β : Type} (N : Nat) (a0 : Int) (a1 : Int) (a2 : Int) (k : Int → Option β) : spec_InfluenceOf N a0 a1 a2 k = BV_spec_InfluenceOf N (spec_IsTable N) (spec_l1In N) (spec_InfluenceOf_l0 N) a0 a1 a2 k := by
  unfold spec_InfluenceOf BV_spec_InfluenceOf
  rfl
theorem ve45_0 {β : Type} (N : Nat) (q_spec_IsTable : (a0 : Int) → (a1 : Int) → (k : Bool → Option β) → Option β) (q_spec_l1In : (a0 : Int) → (a1 : Int) → (a2 : Int) → (k : Bool → Option β) → Option β) (q_spec_InfluenceOf_l0 : Nat → Int → Int → Int → Int → Int → (Int → Option β) → Option β)  (a0 : Int) (a1 : Int) (a2 : Int) (K : TV → Option β) : evFn lay (VE45 N q_spec_IsTable q_spec_l1In q_spec_InfluenceOf_l0) Try.f45 [.v (.agg [.int .i64 a0, .int .i64 a1]), .v (.one (.int .i64 a2))] K = BV_spec_InfluenceOf N q_spec_IsTable q_spec_l1In q_spec_InfluenceOf_l0 a0 a1 a2 (fun z3 => K (.v (.one (.int .i64 z3)))) := by kernel_rfl
theorem e45_0 {β : Type} (N : Nat)  (a0 : Int) (a1 : Int) (a2 : Int) (K : TV → Option β) : evFn lay (E45 N) Try.f45 [.v (.agg [.int .i64 a0, .int .i64 a1]), .v (.one (.int .i64 a2))] K = spec_InfluenceOf N a0 a1 a2 (fun z3 => K (.v (.one (.int .i64 z3)))) := (ve45_0 N (spec_IsTable N) (spec_l1In N) (spec_InfluenceOf_l0 N) a0 a1 a2 K).trans (t_spec_InfluenceOf N a0 a1 a2 (fun z3 => K (.v (.one (.int .i64 z3))))).symm
theorem o45 {β : Type} (N : Nat) : SpecOK (β := β) Try.prog 45 (S45 N) := by
  refine spec_of lay_ok mixed (E := E45 N) (specs_loops (specs_cons (o43 N) (specs_cons (o73 N) specs_nil))) muts_nil gs_nil Try.func45 (by kernel_rfl) 1 (by kernel_rfl) ⟨trivial, rk45_0 N⟩ fun args K r h => ?_
  unfold S45 VS45 at h
  split at h
  · exact (e45_0 N _ _ _ _).trans h
  · cases h
end Go.Proofs.Ytdjmbggefcfacaa
