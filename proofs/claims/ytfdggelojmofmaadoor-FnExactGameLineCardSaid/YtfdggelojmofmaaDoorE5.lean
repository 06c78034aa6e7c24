/- The functions that the claims reach answer as their texts do. -/
import Derived.Test.YtfdggelojmofmaaDoorE4
namespace Go.Proofs.YtfdggelojmofmaaDoor
open Go.Rv
set_option maxRecDepth 100000
set_option maxHeartbeats 2000000
set_option linter.unusedVariables false
def VS143 {β : Type} (N : Nat) (q_impl_Table_depends : (a0 : Int) → (a1 : Int) → (a2 : Int) → (k : Bool → Option β) → Option β) : Rv.Spec β := fun args K => match args with
  | [.v (.agg [.int .i64 a0, .int .i64 a1]), .v (.one (.int .i64 a2))] => q_impl_Table_depends a0 a1 a2 (fun z3 => K (.v (.one (.bool z3))))
  | _ => none
def S143 {β : Type} (N : Nat) : Rv.Spec β := VS143 N (impl_Table_depends N)
def VE143 {β : Type} (N : Nat) (q_impl_Table_restrict : (a0 : Int) → (a1 : Int) → (a2 : Int) → (a3 : Int) → (k : Int → Int → Option β) → Option β) : Env β := ⟨[(142, VS142 N q_impl_Table_restrict)], [], [], [], ⟨[], [], []⟩⟩
def E143 {β : Type} (N : Nat) : Env β := VE143 N (impl_Table_restrict N)
def BV_impl_Table_depends {β : Type} (N : Nat) (q_impl_Table_restrict : (a0 : Int) → (a1 : Int) → (a2 : Int) → (a3 : Int) → (k : Int → Int → Option β) → Option β) (a0 : Int) (a1 : Int) (a2 : Int) (k : Bool → Option β) : Option β :=
q_impl_Table_restrict a0 a1 a2 0 fun r4 r5 =>
q_impl_Table_restrict a0 a1 a2 1 fun r6 r7 =>
k ((!((r4 == r6) && (r5 == r7))))
theorem t_impl_Table_depends {β : Type} (N : Nat) (a0 : Int) (a1 : Int) (a2 : Int) (k : Bool → Option β) : impl_Table_depends N a0 a1 a2 k = BV_impl_Table_depends N (impl_Table_restrict N) a0 a1 a2 k := by
  unfold impl_Table_depends BV_impl_Table_depends
  rfl
theorem ve143_0 {β : Type} (N : Nat) (q_impl_Table_restrict : (a0 : Int) → (a1 : Int) → (a2 : Int) → (a3 : Int) → (k : Int → Int → Option β) → Option β)  (a0 : Int) (a1 : Int) (a2 : Int) (K : TV → Option β) : evFn lay (VE143 N q_impl_Table_restrict) Tryd.f143 [.v (.agg [.int .i64 a0, .int .i64 a1]), .v (.one (.int .i64 a2))] K = BV_impl_Table_depends N q_impl_Table_restrict a0 a1 a2 (fun z3 => K (.v (.one (.bool z3)))) := by kernel_rfl
theorem e143_0 {β : Type} (N : Nat)  (a0 : Int) (a1 : Int) (a2 : Int) (K : TV → Option β) : evFn lay (E143 N) Tryd.f143 [.v (.agg [.int .i64 a0, .int .i64 a1]), .v (.one (.int .i64 a2))] K = impl_Table_depends N a0 a1 a2 (fun z3 => K (.v (.one (.bool z3)))) := (ve143_0 N (impl_Table_restrict N) a0 a1 a2 K).trans (t_impl_Table_depends N a0 a1 a2 (fun z3 => K (.v (.one (.bool z3))))).symm
theorem o143 {β : Type} (N : Nat) : SpecOK (β := β) inv Tryd.prog 143 (S143 N) := by
  refine spec_of lay_ok mixed (E := E143 N) (specs_loops (specs_cons (o142 N) specs_nil)) muts_nil gs_nil Tryd.func143 (by kernel_rfl) 0 (by kernel_rfl) trivial fun args K r h => ?_
  unfold S143 VS143 at h
  split at h
  · exact (e143_0 N _ _ _ _).trans h
  · cases h
def VS82 {β : Type} (N : Nat) (q_impl_DummyPlayers : (a0 : Int) → (a1 : Int) → (k : List Int → Option β) → Option β) : Rv.Spec β := fun args K => match args with
  | [.v (.agg [.int .i64 a0, .int .i64 a1])] => q_impl_DummyPlayers a0 a1 (fun z2 => K (.v (.one (.sl 3 (.ints .i64 z2)))))
  | _ => none
def S82 {β : Type} (N : Nat) : Rv.Spec β := VS82 N (impl_DummyPlayers N)
def h82_0_0  (v0 : Int) (v1 : Int) (v2 : Int) (v3 : Int) (v4 : List Int) : St := ⟨.v (.one .und) :: .v (.one (.ptr 0 0)) :: .v (.one .und) :: .v (.one (.row 1)) :: .v (.one .und) :: .v (.one .und) :: .v (.one .und) :: .v (.one .und) :: .v (.one .und) :: .v (.one (.int .i64 v0)) :: .v (.one (.int .i64 v1)) :: .v (.one .und) :: .v (.one .und) :: .v (.one .und) :: .v (.one .und) :: .v (.one .und) :: .v (.one .und) :: .v (.one .und) :: .v (.one .und) :: .v (.one .und) :: .v (.one .und) :: .v (.one .und) :: .v (.one .und) :: [], [.cells 24 [.int .i64 v2, .int .i64 v3], .row 3 (.ints .i64 v4)]⟩
def x82_0_0_k0  (y0 : List Int) : St := ⟨.v (.one .und) :: .v (.one .und) :: .v (.one .und) :: .v (.one (.row 0)) :: .v (.one .und) :: .v (.one .und) :: .v (.one .und) :: .v (.one .und) :: .v (.one .und) :: .v (.one .und) :: .v (.one .und) :: .v (.one .und) :: .v (.one .und) :: .v (.one .und) :: .v (.one .und) :: .v (.one .und) :: .v (.one .und) :: .v (.one .und) :: .v (.one .und) :: .v (.one .und) :: .v (.one .und) :: .v (.one .und) :: .v (.one .und) :: [], [.row 3 (.ints .i64 y0)]⟩
theorem fl82_0_0 (s : St) : refSt (h82_0_0 0 0 0 0 []) s = h82_0_0 (intS (oneA (vT (nx tund s.tmps 9)))) (intS (oneA (vT (nx tund s.tmps 10)))) (intS (nx .und (cellsB (nx .dead s.blks 0)) 0)) (intS (nx .und (cellsB (nx .dead s.blks 0)) 1)) (rInts (rowB_ (nx .dead s.blks 1))) := by kernel_rfl
def VLS82_0 {β : Type} (N : Nat) (q_impl_DummyPlayers_l0 : Nat → Int → Int → Int → Int → List Int → (List Int → Option β) → Option β) : LSpec β := fun s K => cond (shpSt (h82_0_0 0 0 0 0 []) s) ((fun (v0 : Int) (v1 : Int) (v2 : Int) (v3 : Int) (v4 : List Int) => q_impl_DummyPlayers_l0  N v0 v1 v2 v3 v4 (fun y0 => K (.exit 0) (x82_0_0_k0  y0))) (intS (oneA (vT (nx tund s.tmps 9)))) (intS (oneA (vT (nx tund s.tmps 10)))) (intS (nx .und (cellsB (nx .dead s.blks 0)) 0)) (intS (nx .und (cellsB (nx .dead s.blks 0)) 1)) (rInts (rowB_ (nx .dead s.blks 1)))) (none)
def LS82_0 {β : Type} (N : Nat) : LSpec β := VLS82_0 N (impl_DummyPlayers_l0 N)
def VE82 {β : Type} (N : Nat) (q_impl_IsSimpleGame : (a0 : Int) → (a1 : Int) → (k : Bool → Option β) → Option β) (q_impl_Table_depends : (a0 : Int) → (a1 : Int) → (a2 : Int) → (k : Bool → Option β) → Option β) (q_impl_DummyPlayers_l0 : Nat → Int → Int → Int → Int → List Int → (List Int → Option β) → Option β) : Env β := ⟨[(77, VS77 N q_impl_IsSimpleGame), (143, VS143 N q_impl_Table_depends)], [], [(0, VLS82_0 N q_impl_DummyPlayers_l0)], [], ⟨[], [], []⟩⟩
def E82 {β : Type} (N : Nat) : Env β := VE82 N (impl_IsSimpleGame N) (impl_Table_depends N) (impl_DummyPlayers_l0 N)
def BV_impl_DummyPlayers_l0b {β : Type} (N : Nat) (q_impl_Table_depends : (a0 : Int) → (a1 : Int) → (a2 : Int) → (k : Bool → Option β) → Option β)  (v0 : Int) (v1 : Int) (v2 : Int) (v3 : Int) (v4 : List Int) (rec_ : Int → Int → Int → Int → List Int → Option β) (k0 : List Int → Option β) : Option β :=
(cond ((decide (v1 < v0)))
(q_impl_Table_depends v2 v3 v1 fun r4 =>
(cond (!r4)
((gd ((decide ((v4.length + ((([] : List Int) ++ [v1])).length) * 8 ≤ 140737488355328)))
(rec_ v0 ((w64 (v1 + 1))) v2 v3 ((v4 ++ (([] : List Int) ++ [v1]))))))
(rec_ v0 ((w64 (v1 + 1))) v2 v3 v4)))
(k0 v4))
theorem t_impl_DummyPlayers_l0b {β : Type} (N : Nat)  (v0 : Int) (v1 : Int) (v2 : Int) (v3 : Int) (v4 : List Int) (rec_ : Int → Int → Int → Int → List Int → Option β) (k0 : List Int → Option β) : impl_DummyPlayers_l0b N v0 v1 v2 v3 v4 rec_ k0 = BV_impl_DummyPlayers_l0b N (impl_Table_depends N) v0 v1 v2 v3 v4 rec_ k0 := by
  unfold impl_DummyPlayers_l0b BV_impl_DummyPlayers_l0b
  rfl
theorem vst82_0_0 {β : Type} (N : Nat) (q_impl_IsSimpleGame : (a0 : Int) → (a1 : Int) → (k : Bool → Option β) → Option β) (q_impl_Table_depends : (a0 : Int) → (a1 : Int) → (a2 : Int) → (k : Bool → Option β) → Option β) (q_impl_DummyPlayers_l0 : Nat → Int → Int → Int → Int → List Int → (List Int → Option β) → Option β)  (v0 : Int) (v1 : Int) (v2 : Int) (v3 : Int) (v4 : List Int) (rec_ : St → Option β) (K : Exit → St → Option β) :
    ev lay (VE82 N q_impl_IsSimpleGame q_impl_Table_depends q_impl_DummyPlayers_l0) (retMask Tryd.f82) (lp Tryd.f82 0).body (lp Tryd.f82 0).ex ((lp Tryd.f82 0).lv (retMask Tryd.f82)) (h82_0_0  v0 v1 v2 v3 v4) (nextR (fun s' => rec_ (s'.tidy ((lp Tryd.f82 0).lv (retMask Tryd.f82)))) K) = BV_impl_DummyPlayers_l0b N q_impl_Table_depends  v0 v1 v2 v3 v4 (fun v0 v1 v2 v3 v4 => rec_ (h82_0_0  v0 v1 v2 v3 v4)) (fun y0 => K (.exit 0) (x82_0_0_k0  y0)) := by kernel_rfl
theorem st82_0_0 {β : Type} (N : Nat)  (v0 : Int) (v1 : Int) (v2 : Int) (v3 : Int) (v4 : List Int) (rec_ : St → Option β) (K : Exit → St → Option β) :
    ev lay (E82 N) (retMask Tryd.f82) (lp Tryd.f82 0).body (lp Tryd.f82 0).ex ((lp Tryd.f82 0).lv (retMask Tryd.f82)) (h82_0_0  v0 v1 v2 v3 v4) (nextR (fun s' => rec_ (s'.tidy ((lp Tryd.f82 0).lv (retMask Tryd.f82)))) K) = impl_DummyPlayers_l0b N  v0 v1 v2 v3 v4 (fun v0 v1 v2 v3 v4 => rec_ (h82_0_0  v0 v1 v2 v3 v4)) (fun y0 => K (.exit 0) (x82_0_0_k0  y0)) := (vst82_0_0 N (impl_IsSimpleGame N) (impl_Table_depends N) (impl_DummyPlayers_l0 N) v0 v1 v2 v3 v4 rec_ K).trans (t_impl_DummyPlayers_l0b N  v0 v1 v2 v3 v4 (fun v0 v1 v2 v3 v4 => rec_ (h82_0_0  v0 v1 v2 v3 v4)) (fun y0 => K (.exit 0) (x82_0_0_k0  y0))).symm
theorem ro82_0_0 {β : Type} (N : Nat)  (K : Exit → St → Option β) : ∀ (F : Nat) (v0 : Int) (v1 : Int) (v2 : Int) (v3 : Int) (v4 : List Int), (lp Tryd.f82 0).rounds lay (E82 N) (retMask Tryd.f82) F (h82_0_0  v0 v1 v2 v3 v4) K = impl_DummyPlayers_l0 N  F v0 v1 v2 v3 v4 (fun y0 => K (.exit 0) (x82_0_0_k0  y0)) := by
  intro F
  induction F with
  | zero => intros; rfl
  | succ F ih =>
    intros
    rw [rounds_next]
    refine (st82_0_0 N  _ _ _ _ _ (fun s => (lp Tryd.f82 0).rounds lay (E82 N) (retMask Tryd.f82) F s K) K).trans ?_
    simp only [ih]
    rfl
theorem lk82_0 {β : Type} (N : Nat) : lookL (E82 (β := β) N).loops (lp Tryd.f82 0).id = LS82_0 N := by kernel_rfl
theorem rk82_0 {β : Type} (N : Nat) : RoundsOK lay (E82 (β := β) N) (retMask Tryd.f82) (lp Tryd.f82 0) := by
  intro s K r h
  rw [lk82_0] at h
  unfold LS82_0 VLS82_0 at h
  cases hb : shpSt (h82_0_0 0 0 0 0 []) s with
  | true =>
    rw [hb, cond_true] at h
    exact ⟨N, by rw [← shpSt_ref hb, fl82_0_0 s]; exact (ro82_0_0 N  K N (intS (oneA (vT (nx tund s.tmps 9)))) (intS (oneA (vT (nx tund s.tmps 10)))) (intS (nx .und (cellsB (nx .dead s.blks 0)) 0)) (intS (nx .und (cellsB (nx .dead s.blks 0)) 1)) (rInts (rowB_ (nx .dead s.blks 1)))).trans h⟩
  | false =>
  rw [hb, cond_false] at h
  clear hb
  cases h
def BV_impl_DummyPlayers {β : Type} (N : Nat) (q_impl_IsSimpleGame : (a0 : Int) → (a1 : Int) → (k : Bool → Option β) → Option β) (q_impl_DummyPlayers_l0 : Nat → Int → Int → Int → Int → List Int → (List Int → Option β) → Option β) (a0 : Int) (a1 : Int) (k : List Int → Option β) : Option β :=
q_impl_IsSimpleGame a0 a1 fun r3 =>
(cond (!r3)
(k (([] : List Int)))
(q_impl_DummyPlayers_l0  N a0 0 a0 a1 (([] : List Int)) (fun e5_0 =>
k e5_0)))
theorem t_impl_DummyPlayers {β : Type} (N : Nat) (a0 : Int) (a1 : Int) (k : List Int → Option β) : impl_DummyPlayers N a0 a1 k = BV_impl_DummyPlayers N (impl_IsSimpleGame N) (impl_DummyPlayers_l0 N) a0 a1 k := by
  unfold impl_DummyPlayers BV_impl_DummyPlayers
  rfl
theorem ve82_0 {β : Type} (N : Nat) (q_impl_IsSimpleGame : (a0 : Int) → (a1 : Int) → (k : Bool → Option β) → Option β) (q_impl_Table_depends : (a0 : Int) → (a1 : Int) → (a2 : Int) → (k : Bool → Option β) → Option β) (q_impl_DummyPlayers_l0 : Nat → Int → Int → Int → Int → List Int → (List Int → Option β) → Option β)  (a0 : Int) (a1 : Int) (K : TV → Option β) : evFn lay (VE82 N q_impl_IsSimpleGame q_impl_Table_depends q_impl_DummyPlayers_l0) Tryd.f82 [.v (.agg [.int .i64 a0, .int .i64 a1])] K = BV_impl_DummyPlayers N q_impl_IsSimpleGame q_impl_DummyPlayers_l0 a0 a1 (fun z2 => K (.v (.one (.sl 3 (.ints .i64 z2))))) := by kernel_rfl
theorem e82_0 {β : Type} (N : Nat)  (a0 : Int) (a1 : Int) (K : TV → Option β) : evFn lay (E82 N) Tryd.f82 [.v (.agg [.int .i64 a0, .int .i64 a1])] K = impl_DummyPlayers N a0 a1 (fun z2 => K (.v (.one (.sl 3 (.ints .i64 z2))))) := (ve82_0 N (impl_IsSimpleGame N) (impl_Table_depends N) (impl_DummyPlayers_l0 N) a0 a1 K).trans (t_impl_DummyPlayers N a0 a1 (fun z2 => K (.v (.one (.sl 3 (.ints .i64 z2)))))).symm
theorem o82 {β : Type} (N : Nat) : SpecOK (β := β) inv Tryd.prog 82 (S82 N) := by
  refine spec_of lay_ok mixed (E := E82 N) (specs_loops (specs_cons (o77 N) (specs_cons (o143 N) specs_nil))) muts_nil gs_nil Tryd.func82 (by kernel_rfl) 1 (by kernel_rfl) ⟨trivial, rk82_0 N⟩ fun args K r h => ?_
  unfold S82 VS82 at h
  split at h
  · exact (e82_0 N _ _ _).trans h
  · cases h
def VS144 {β : Type} (N : Nat) (q_impl_Table_shift : (a0 : Int) → (a1 : Int) → (a2 : Int) → (k : Int → Int → Option β) → Option β) : Rv.Spec β := fun args K => match args with
  | [.v (.agg [.int .i64 a0, .int .i64 a1]), .v (.one (.int .i64 a2))] => q_impl_Table_shift a0 a1 a2 (fun z3 z4 => K (.v (.agg [.int .i64 z3, .int .i64 z4])))
  | _ => none
def S144 {β : Type} (N : Nat) : Rv.Spec β := VS144 N (impl_Table_shift N)
def VE144 {β : Type} (N : Nat) (q_impl_makeTable : (a0 : Int) → (a1 : (Int → (Bool → Option β) → Option β)) → (k : Int → Int → Option β) → Option β) (q_impl_Table_restrict_1 : (a0 : Int) → (c0 : Int) → (c1 : Int) → (c2 : Int) → (c3 : Int) → (k : Bool → Option β) → Option β) (q_impl_Table_shift_1 : (a0 : Int) → (c0 : Int) → (c1 : Int) → (c2 : Int) → (k : Bool → Option β) → Option β) : Env β := ⟨[(194, VS194 N q_impl_makeTable q_impl_Table_restrict_1 q_impl_Table_shift_1), (197, VS197 N q_impl_Table_shift_1)], [], [], [], ⟨[], [], []⟩⟩
def E144 {β : Type} (N : Nat) : Env β := VE144 N (impl_makeTable N) (impl_Table_restrict_1 N) (impl_Table_shift_1 N)
def BV_impl_Table_shift {β : Type} (N : Nat) (q_impl_makeTable : (a0 : Int) → (a1 : (Int → (Bool → Option β) → Option β)) → (k : Int → Int → Option β) → Option β) (q_impl_Table_shift_1 : (a0 : Int) → (c0 : Int) → (c1 : Int) → (c2 : Int) → (k : Bool → Option β) → Option β) (a0 : Int) (a1 : Int) (a2 : Int) (k : Int → Int → Option β) : Option β :=
q_impl_makeTable a0 (fun x0 k => q_impl_Table_shift_1 x0 a0 a1 a2 k) fun r5 r6 =>
k r5 r6
theorem t_impl_Table_shift {β : Type} (N : Nat) (a0 : Int) (a1 : Int) (a2 : Int) (k : Int → Int → Option β) : impl_Table_shift N a0 a1 a2 k = BV_impl_Table_shift N (impl_makeTable N) (impl_Table_shift_1 N) a0 a1 a2 k := by
  unfold impl_Table_shift BV_impl_Table_shift
  rfl
theorem ve144_0 {β : Type} (N : Nat) (q_impl_makeTable : (a0 : Int) → (a1 : (Int → (Bool → Option β) → Option β)) → (k : Int → Int → Option β) → Option β) (q_impl_Table_restrict_1 : (a0 : Int) → (c0 : Int) → (c1 : Int) → (c2 : Int) → (c3 : Int) → (k : Bool → Option β) → Option β) (q_impl_Table_shift_1 : (a0 : Int) → (c0 : Int) → (c1 : Int) → (c2 : Int) → (k : Bool → Option β) → Option β)  (a0 : Int) (a1 : Int) (a2 : Int) (K : TV → Option β) : evFn lay (VE144 N q_impl_makeTable q_impl_Table_restrict_1 q_impl_Table_shift_1) Tryd.f144 [.v (.agg [.int .i64 a0, .int .i64 a1]), .v (.one (.int .i64 a2))] K = BV_impl_Table_shift N q_impl_makeTable q_impl_Table_shift_1 a0 a1 a2 (fun z3 z4 => K (.v (.agg [.int .i64 z3, .int .i64 z4]))) := by kernel_rfl
theorem e144_0 {β : Type} (N : Nat)  (a0 : Int) (a1 : Int) (a2 : Int) (K : TV → Option β) : evFn lay (E144 N) Tryd.f144 [.v (.agg [.int .i64 a0, .int .i64 a1]), .v (.one (.int .i64 a2))] K = impl_Table_shift N a0 a1 a2 (fun z3 z4 => K (.v (.agg [.int .i64 z3, .int .i64 z4]))) := (ve144_0 N (impl_makeTable N) (impl_Table_restrict_1 N) (impl_Table_shift_1 N) a0 a1 a2 K).trans (t_impl_Table_shift N a0 a1 a2 (fun z3 z4 => K (.v (.agg [.int .i64 z3, .int .i64 z4])))).symm
theorem o144 {β : Type} (N : Nat) : SpecOK (β := β) inv Tryd.prog 144 (S144 N) := by
  refine spec_of lay_ok mixed (E := E144 N) (specs_loops (specs_cons (o194 N) (specs_cons (o197 N) specs_nil))) muts_nil gs_nil Tryd.func144 (by kernel_rfl) 0 (by kernel_rfl) trivial fun args K r h => ?_
  unfold S144 VS144 at h
  split at h
  · exact (e144_0 N _ _ _ _).trans h
  · cases h
def VS84 {β : Type} (N : Nat) (q_impl_IsProperGame : (a0 : Int) → (a1 : Int) → (k : Bool → Option β) → Option β) : Rv.Spec β := fun args K => match args with
  | [.v (.agg [.int .i64 a0, .int .i64 a1])] => q_impl_IsProperGame a0 a1 (fun z2 => K (.v (.one (.bool z2))))
  | _ => none
def S84 {β : Type} (N : Nat) : Rv.Spec β := VS84 N (impl_IsProperGame N)
def VE84 {β : Type} (N : Nat) (q_impl_IsSimpleGame : (a0 : Int) → (a1 : Int) → (k : Bool → Option β) → Option β) (q_impl_Table_size : (a0 : Int) → (a1 : Int) → (k : Int → Option β) → Option β) (q_impl_Table_shift : (a0 : Int) → (a1 : Int) → (a2 : Int) → (k : Int → Int → Option β) → Option β) : Env β := ⟨[(77, VS77 N q_impl_IsSimpleGame), (125, VS125 N q_impl_Table_size), (144, VS144 N q_impl_Table_shift)], [], [], [], ⟨[], [], []⟩⟩
def E84 {β : Type} (N : Nat) : Env β := VE84 N (impl_IsSimpleGame N) (impl_Table_size N) (impl_Table_shift N)
def BV_impl_IsProperGame {β : Type} (N : Nat) (q_impl_IsSimpleGame : (a0 : Int) → (a1 : Int) → (k : Bool → Option β) → Option β) (q_impl_Table_size : (a0 : Int) → (a1 : Int) → (k : Int → Option β) → Option β) (q_impl_Table_shift : (a0 : Int) → (a1 : Int) → (a2 : Int) → (k : Int → Int → Option β) → Option β) (a0 : Int) (a1 : Int) (k : Bool → Option β) : Option β :=
q_impl_IsSimpleGame a0 a1 fun r3 =>
(cond (!r3)
(k false)
(q_impl_Table_size a0 a1 fun r4 =>
q_impl_Table_shift a0 a1 ((w64 (r4 - 1))) fun r5 r6 =>
k (((bits .and .i64 a1 r6) == 0))))
theorem t_impl_IsProperGame {β : Type} (N : Nat) (a0 : Int) (a1 : Int) (k : Bool → Option β) : impl_IsProperGame N a0 a1 k = BV_impl_IsProperGame N (impl_IsSimpleGame N) (impl_Table_size N) (impl_Table_shift N) a0 a1 k := by
  unfold impl_IsProperGame BV_impl_IsProperGame
  rfl
theorem ve84_0 {β : Type} (N : Nat) (q_impl_IsSimpleGame : (a0 : Int) → (a1 : Int) → (k : Bool → Option β) → Option β) (q_impl_Table_size : (a0 : Int) → (a1 : Int) → (k : Int → Option β) → Option β) (q_impl_Table_shift : (a0 : Int) → (a1 : Int) → (a2 : Int) → (k : Int → Int → Option β) → Option β)  (a0 : Int) (a1 : Int) (K : TV → Option β) : evFn lay (VE84 N q_impl_IsSimpleGame q_impl_Table_size q_impl_Table_shift) Tryd.f84 [.v (.agg [.int .i64 a0, .int .i64 a1])] K = BV_impl_IsProperGame N q_impl_IsSimpleGame q_impl_Table_size q_impl_Table_shift a0 a1 (fun z2 => K (.v (.one (.bool z2)))) := by kernel_rfl
theorem e84_0 {β : Type} (N : Nat)  (a0 : Int) (a1 : Int) (K : TV → Option β) : evFn lay (E84 N) Tryd.f84 [.v (.agg [.int .i64 a0, .int .i64 a1])] K = impl_IsProperGame N a0 a1 (fun z2 => K (.v (.one (.bool z2)))) := (ve84_0 N (impl_IsSimpleGame N) (impl_Table_size N) (impl_Table_shift N) a0 a1 K).trans (t_impl_IsProperGame N a0 a1 (fun z2 => K (.v (.one (.bool z2))))).symm
theorem o84 {β : Type} (N : Nat) : SpecOK (β := β) inv Tryd.prog 84 (S84 N) := by
  refine spec_of lay_ok mixed (E := E84 N) (specs_loops (specs_cons (o77 N) (specs_cons (o125 N) (specs_cons (o144 N) specs_nil)))) muts_nil gs_nil Tryd.func84 (by kernel_rfl) 0 (by kernel_rfl) trivial fun args K r h => ?_
  unfold S84 VS84 at h
  split at h
  · exact (e84_0 N _ _ _).trans h
  · cases h
def VS60 {β : Type} (N : Nat) (q_impl_line_put_g0 : (a0 : List ByteArray) → (a1 : List ByteArray) → (k0 : List ByteArray → List ByteArray → Option β) → Option β) : GSpec β := fun args bl K => match args, bl with
  | [.v (.one (.ptr 0 0)), .v (.one (.row 1))], [.pcells 0 65 [.row 2], .prow 1 9 (.strs a0), .prow 2 9 (.strs a1)] => q_impl_line_put_g0 a0 a1 (fun y0 y1 => K (.tup []) [.pcells 0 65 [.row 2], .prow 1 9 (.strs y0), .row 9 (.strs y1)])
  | _, _ => none
def S60 {β : Type} (N : Nat) : GSpec β := VS60 N (impl_line_put_g0 N)
def VE60 {β : Type} (N : Nat) : Env β := ⟨[], [], [], [], ⟨[], [], []⟩⟩
def E60 {β : Type} (N : Nat) : Env β := VE60 N
def BV_impl_line_put_g0 {β : Type} (N : Nat) (a0 : List ByteArray) (a1 : List ByteArray) (k0 : List ByteArray → List ByteArray → Option β) : Option β :=
(gd ((decide ((a1.length + a0.length) * 16 ≤ 140737488355328)))
(k0 a0 ((a1 ++ a0))))
theorem t_impl_line_put_g0 {β : Type} (N : Nat) (a0 : List ByteArray) (a1 : List ByteArray) (k0 : List ByteArray → List ByteArray → Option β) : impl_line_put_g0 N a0 a1 k0 = BV_impl_line_put_g0 N a0 a1 k0 := by
  unfold impl_line_put_g0 BV_impl_line_put_g0
  rfl
theorem ve60_0 {β : Type} (N : Nat) (a0 : List ByteArray) (a1 : List ByteArray) (K : TV → List Blk → Option β) : evFnG lay (VE60 N) Tryd.f60 [.v (.one (.ptr 0 0)), .v (.one (.row 1))] [.pcells 0 65 [.row 2], .prow 1 9 (.strs a0), .prow 2 9 (.strs a1)] K = BV_impl_line_put_g0 N a0 a1 (fun y0 y1 => K (.tup []) [.pcells 0 65 [.row 2], .prow 1 9 (.strs y0), .row 9 (.strs y1)]) := by kernel_rfl
theorem e60_0 {β : Type} (N : Nat) (a0 : List ByteArray) (a1 : List ByteArray) (K : TV → List Blk → Option β) : evFnG lay (E60 N) Tryd.f60 [.v (.one (.ptr 0 0)), .v (.one (.row 1))] [.pcells 0 65 [.row 2], .prow 1 9 (.strs a0), .prow 2 9 (.strs a1)] K = impl_line_put_g0 N a0 a1 (fun y0 y1 => K (.tup []) [.pcells 0 65 [.row 2], .prow 1 9 (.strs y0), .row 9 (.strs y1)]) := (ve60_0 N a0 a1 K).trans (t_impl_line_put_g0 N a0 a1 (fun y0 y1 => K (.tup []) [.pcells 0 65 [.row 2], .prow 1 9 (.strs y0), .row 9 (.strs y1)])).symm
theorem o60 {β : Type} (N : Nat) : GOK (β := β) inv Tryd.prog 60 (S60 N) := by
  refine g_of lay_ok mixed (E := E60 N) (specs_loops specs_nil) muts_nil gs_nil Tryd.func60 (by kernel_rfl) 0 (by kernel_rfl) trivial fun args bl K r h => ?_
  unfold S60 VS60 at h
  split at h
  · exact (e60_0 N _ _ _).trans h
  · cases h
def VS83 {β : Type} (N : Nat) (q_impl_line_putIf_g0 : (a0 : Bool) → (a1 : ByteArray) → (a2 : List ByteArray) → (k0 : List ByteArray → Option β) → (k1 : List ByteArray → Option β) → Option β) : GSpec β := fun args bl K => match args, bl with
  | [.v (.one (.ptr 0 0)), .v (.one (.bool a0)), .v (.one (.str a1))], [.pcells 0 65 [.row 1], .prow 1 9 (.strs a2)] => q_impl_line_putIf_g0 a0 a1 a2 (fun y0 => K (.tup []) [.pcells 0 65 [.row 1], .row 9 (.strs y0)]) (fun y0 => K (.tup []) [.pcells 0 65 [.row 1], .prow 1 9 (.strs y0)])
  | _, _ => none
def S83 {β : Type} (N : Nat) : GSpec β := VS83 N (impl_line_putIf_g0 N)
def VE83 {β : Type} (N : Nat) (q_impl_line_put_g0 : (a0 : List ByteArray) → (a1 : List ByteArray) → (k0 : List ByteArray → List ByteArray → Option β) → Option β) : Env β := ⟨[], [], [], [(60, VS60 N q_impl_line_put_g0)], ⟨[], [], []⟩⟩
def E83 {β : Type} (N : Nat) : Env β := VE83 N (impl_line_put_g0 N)
def BV_impl_line_putIf_g0 {β : Type} (N : Nat) (q_impl_line_put_g0 : (a0 : List ByteArray) → (a1 : List ByteArray) → (k0 : List ByteArray → List ByteArray → Option β) → Option β) (a0 : Bool) (a1 : ByteArray) (a2 : List ByteArray) (k0 : List ByteArray → Option β) (k1 : List ByteArray → Option β) : Option β :=
(cond a0
(q_impl_line_put_g0 ((([] : List ByteArray) ++ [a1])) a2 (fun r17_0 r17_1 =>
k0 r17_1))
(k1 a2))
theorem t_impl_line_putIf_g0 {β : Type} (N : Nat) (a0 : Bool) (a1 : ByteArray) (a2 : List ByteArray) (k0 : List ByteArray → Option β) (k1 : List ByteArray → Option β) : impl_line_putIf_g0 N a0 a1 a2 k0 k1 = BV_impl_line_putIf_g0 N (impl_line_put_g0 N) a0 a1 a2 k0 k1 := by
  unfold impl_line_putIf_g0 BV_impl_line_putIf_g0
  rfl
theorem ve83_0 {β : Type} (N : Nat) (q_impl_line_put_g0 : (a0 : List ByteArray) → (a1 : List ByteArray) → (k0 : List ByteArray → List ByteArray → Option β) → Option β) (a0 : Bool) (a1 : ByteArray) (a2 : List ByteArray) (K : TV → List Blk → Option β) : evFnG lay (VE83 N q_impl_line_put_g0) Tryd.f83 [.v (.one (.ptr 0 0)), .v (.one (.bool a0)), .v (.one (.str a1))] [.pcells 0 65 [.row 1], .prow 1 9 (.strs a2)] K = BV_impl_line_putIf_g0 N q_impl_line_put_g0 a0 a1 a2 (fun y0 => K (.tup []) [.pcells 0 65 [.row 1], .row 9 (.strs y0)]) (fun y0 => K (.tup []) [.pcells 0 65 [.row 1], .prow 1 9 (.strs y0)]) := by kernel_rfl
theorem e83_0 {β : Type} (N : Nat) (a0 : Bool) (a1 : ByteArray) (a2 : List ByteArray) (K : TV → List Blk → Option β) : evFnG lay (E83 N) Tryd.f83 [.v (.one (.ptr 0 0)), .v (.one (.bool a0)), .v (.one (.str a1))] [.pcells 0 65 [.row 1], .prow 1 9 (.strs a2)] K = impl_line_putIf_g0 N a0 a1 a2 (fun y0 => K (.tup []) [.pcells 0 65 [.row 1], .row 9 (.strs y0)]) (fun y0 => K (.tup []) [.pcells 0 65 [.row 1], .prow 1 9 (.strs y0)]) := (ve83_0 N (impl_line_put_g0 N) a0 a1 a2 K).trans (t_impl_line_putIf_g0 N a0 a1 a2 (fun y0 => K (.tup []) [.pcells 0 65 [.row 1], .row 9 (.strs y0)]) (fun y0 => K (.tup []) [.pcells 0 65 [.row 1], .prow 1 9 (.strs y0)])).symm
theorem o83 {β : Type} (N : Nat) : GOK (β := β) inv Tryd.prog 83 (S83 N) := by
  refine g_of lay_ok mixed (E := E83 N) (specs_loops specs_nil) muts_nil (gs_cons (o60 N) gs_nil) Tryd.func83 (by kernel_rfl) 0 (by kernel_rfl) trivial fun args bl K r h => ?_
  unfold S83 VS83 at h
  split at h
  · exact (e83_0 N _ _ _ _).trans h
  · cases h
def VS68 {β : Type} (N : Nat) (q_impl_line_text_g0 : (a0 : List ByteArray) → (k0 : ByteArray → List ByteArray → Option β) → Option β) : GSpec β := fun args bl K => match args, bl with
  | [.v (.one (.ptr 0 0))], [.pcells 0 65 [.row 1], .prow 1 9 (.strs a0)] => q_impl_line_text_g0 a0 (fun y0 y1 => K (.v (.one (.str y0))) [.pcells 0 65 [.row 1], .prow 1 9 (.strs y1)])
  | _, _ => none
def S68 {β : Type} (N : Nat) : GSpec β := VS68 N (impl_line_text_g0 N)
def VE68 {β : Type} (N : Nat) : Env β := ⟨[(126, S126 N)], [], [], [], ⟨[], [], []⟩⟩
def E68 {β : Type} (N : Nat) : Env β := VE68 N
def BV_impl_line_text_g0 {β : Type} (N : Nat) (a0 : List ByteArray) (k0 : ByteArray → List ByteArray → Option β) : Option β :=
strings_Join N a0 ((strOf [32])) fun r19 =>
k0 r19 a0
theorem t_impl_line_text_g0 {β : Type} (N : Nat) (a0 : List ByteArray) (k0 : ByteArray → List ByteArray → Option β) : impl_line_text_g0 N a0 k0 = BV_impl_line_text_g0 N a0 k0 := by
  unfold impl_line_text_g0 BV_impl_line_text_g0
  rfl
theorem ve68_0 {β : Type} (N : Nat) (a0 : List ByteArray) (K : TV → List Blk → Option β) : evFnG lay (VE68 N) Tryd.f68 [.v (.one (.ptr 0 0))] [.pcells 0 65 [.row 1], .prow 1 9 (.strs a0)] K = BV_impl_line_text_g0 N a0 (fun y0 y1 => K (.v (.one (.str y0))) [.pcells 0 65 [.row 1], .prow 1 9 (.strs y1)]) := by kernel_rfl
theorem e68_0 {β : Type} (N : Nat) (a0 : List ByteArray) (K : TV → List Blk → Option β) : evFnG lay (E68 N) Tryd.f68 [.v (.one (.ptr 0 0))] [.pcells 0 65 [.row 1], .prow 1 9 (.strs a0)] K = impl_line_text_g0 N a0 (fun y0 y1 => K (.v (.one (.str y0))) [.pcells 0 65 [.row 1], .prow 1 9 (.strs y1)]) := (ve68_0 N a0 K).trans (t_impl_line_text_g0 N a0 (fun y0 y1 => K (.v (.one (.str y0))) [.pcells 0 65 [.row 1], .prow 1 9 (.strs y1)])).symm
theorem o68 {β : Type} (N : Nat) : GOK (β := β) inv Tryd.prog 68 (S68 N) := by
  refine g_of lay_ok mixed (E := E68 N) (specs_loops (specs_cons (o126 N) specs_nil)) muts_nil gs_nil Tryd.func68 (by kernel_rfl) 0 (by kernel_rfl) trivial fun args bl K r h => ?_
  unfold S68 VS68 at h
  split at h
  · exact (e68_0 N _ _).trans h
  · cases h
def VS26 {β : Type} (N : Nat) (q_impl_GameLine : (a0 : Int) → (a1 : Int) → (k : ByteArray → Option β) → Option β) : Rv.Spec β := fun args K => match args with
  | [.v (.agg [.int .i64 a0, .int .i64 a1])] => q_impl_GameLine a0 a1 (fun z2 => K (.v (.one (.str z2))))
  | _ => none
def S26 {β : Type} (N : Nat) : Rv.Spec β := VS26 N (impl_GameLine N)
def VE26 {β : Type} (N : Nat) (q_impl_IsSimpleGame : (a0 : Int) → (a1 : Int) → (k : Bool → Option β) → Option β) (q_impl_MinimalPoints : (a0 : Int) → (a1 : Int) → (k : List Int → Option β) → Option β) (q_impl_listText : (a0 : List Int) → (k : ByteArray → Option β) → Option β) (q_impl_BanzhafNumbers : (a0 : Int) → (a1 : Int) → (k : List Int → Option β) → Option β) (q_impl_ShapleyNumbers : (a0 : Int) → (a1 : Int) → (k : List Int → Option β) → Option β) (q_impl_VetoPlayers : (a0 : Int) → (a1 : Int) → (k : List Int → Option β) → Option β) (q_impl_DummyPlayers : (a0 : Int) → (a1 : Int) → (k : List Int → Option β) → Option β) (q_impl_IsProperGame : (a0 : Int) → (a1 : Int) → (k : Bool → Option β) → Option β) (q_impl_line_put_g0 : (a0 : List ByteArray) → (a1 : List ByteArray) → (k0 : List ByteArray → List ByteArray → Option β) → Option β) (q_impl_line_putIf_g0 : (a0 : Bool) → (a1 : ByteArray) → (a2 : List ByteArray) → (k0 : List ByteArray → Option β) → (k1 : List ByteArray → Option β) → Option β) (q_impl_line_text_g0 : (a0 : List ByteArray) → (k0 : ByteArray → List ByteArray → Option β) → Option β) : Env β := ⟨[(77, VS77 N q_impl_IsSimpleGame), (78, VS78 N q_impl_MinimalPoints), (61, VS61 N q_impl_listText), (79, VS79 N q_impl_BanzhafNumbers), (80, VS80 N q_impl_ShapleyNumbers), (81, VS81 N q_impl_VetoPlayers), (82, VS82 N q_impl_DummyPlayers), (84, VS84 N q_impl_IsProperGame)], [], [], [(60, VS60 N q_impl_line_put_g0), (83, VS83 N q_impl_line_putIf_g0), (68, VS68 N q_impl_line_text_g0)], ⟨[], [], []⟩⟩
def E26 {β : Type} (N : Nat) : Env β := VE26 N (impl_IsSimpleGame N) (impl_MinimalPoints N) (impl_listText N) (impl_BanzhafNumbers N) (impl_ShapleyNumbers N) (impl_VetoPlayers N) (impl_DummyPlayers N) (impl_IsProperGame N) (impl_line_put_g0 N) (impl_line_putIf_g0 N) (impl_line_text_g0 N)
def BV_impl_GameLine {β : Type} (N : Nat) (q_impl_IsSimpleGame : (a0 : Int) → (a1 : Int) → (k : Bool → Option β) → Option β) (q_impl_MinimalPoints : (a0 : Int) → (a1 : Int) → (k : List Int → Option β) → Option β) (q_impl_listText : (a0 : List Int) → (k : ByteArray → Option β) → Option β) (q_impl_BanzhafNumbers : (a0 : Int) → (a1 : Int) → (k : List Int → Option β) → Option β) (q_impl_ShapleyNumbers : (a0 : Int) → (a1 : Int) → (k : List Int → Option β) → Option β) (q_impl_line_put_g0 : (a0 : List ByteArray) → (a1 : List ByteArray) → (k0 : List ByteArray → List ByteArray → Option β) → Option β) (q_impl_VetoPlayers : (a0 : Int) → (a1 : Int) → (k : List Int → Option β) → Option β) (q_impl_DummyPlayers : (a0 : Int) → (a1 : Int) → (k : List Int → Option β) → Option β) (q_impl_IsProperGame : (a0 : Int) → (a1 : Int) → (k : Bool → Option β) → Option β) (q_impl_line_putIf_g0 : (a0 : Bool) → (a1 : ByteArray) → (a2 : List ByteArray) → (k0 : List ByteArray → Option β) → (k1 : List ByteArray → Option β) → Option β) (q_impl_line_text_g0 : (a0 : List ByteArray) → (k0 : ByteArray → List ByteArray → Option β) → Option β) (a0 : Int) (a1 : Int) (k : ByteArray → Option β) : Option β :=
q_impl_IsSimpleGame a0 a1 fun r3 =>
(cond (!r3)
(k ByteArray.empty)
(q_impl_MinimalPoints a0 a1 fun r4 =>
q_impl_listText r4 fun r5 =>
q_impl_BanzhafNumbers a0 a1 fun r6 =>
q_impl_listText r6 fun r7 =>
q_impl_ShapleyNumbers a0 a1 fun r8 =>
q_impl_listText r8 fun r9 =>
q_impl_line_put_g0 ((((((((([] : List ByteArray) ++ [(strOf [103, 97, 109, 101])]) ++ [(strOf [109, 105, 110, 105, 109, 97, 108])]) ++ [r5]) ++ [(strOf [98, 97, 110, 122, 104, 97, 102])]) ++ [r7]) ++ [(strOf [115, 104, 97, 112, 108, 101, 121])]) ++ [r9])) (([] : List ByteArray)) (fun r10_0 r10_1 =>
q_impl_VetoPlayers a0 a1 fun r11 =>
q_impl_listText r11 fun r12 =>
q_impl_DummyPlayers a0 a1 fun r13 =>
q_impl_listText r13 fun r14 =>
q_impl_line_put_g0 (((((([] : List ByteArray) ++ [(strOf [118, 101, 116, 111])]) ++ [r12]) ++ [(strOf [100, 117, 109, 109, 105, 101, 115])]) ++ [r14])) r10_1 (fun r15_0 r15_1 =>
q_impl_IsProperGame a0 a1 fun r16 =>
q_impl_line_putIf_g0 r16 ((strOf [112, 114, 111, 112, 101, 114])) r15_1 (fun r17_0 =>
q_impl_line_text_g0 r17_0 (fun r18_0 r18_1 =>
k r18_0)) (fun r19_0 =>
q_impl_line_text_g0 r19_0 (fun r20_0 r20_1 =>
k r20_0))))))
theorem t_impl_GameLine {β : Type} (N : Nat) (a0 : Int) (a1 : Int) (k : ByteArray → Option β) : impl_GameLine N a0 a1 k = BV_impl_GameLine N (impl_IsSimpleGame N) (impl_MinimalPoints N) (impl_listText N) (impl_BanzhafNumbers N) (impl_ShapleyNumbers N) (impl_line_put_g0 N) (impl_VetoPlayers N) (impl_DummyPlayers N) (impl_IsProperGame N) (impl_line_putIf_g0 N) (impl_line_text_g0 N) a0 a1 k := by
  unfold impl_GameLine BV_impl_GameLine
  rfl
theorem ve26_0 {β : Type} (N : Nat) (q_impl_IsSimpleGame : (a0 : Int) → (a1 : Int) → (k : Bool → Option β) → Option β) (q_impl_MinimalPoints : (a0 : Int) → (a1 : Int) → (k : List Int → Option β) → Option β) (q_impl_listText : (a0 : List Int) → (k : ByteArray → Option β) → Option β) (q_impl_BanzhafNumbers : (a0 : Int) → (a1 : Int) → (k : List Int → Option β) → Option β) (q_impl_ShapleyNumbers : (a0 : Int) → (a1 : Int) → (k : List Int → Option β) → Option β) (q_impl_VetoPlayers : (a0 : Int) → (a1 : Int) → (k : List Int → Option β) → Option β) (q_impl_DummyPlayers : (a0 : Int) → (a1 : Int) → (k : List Int → Option β) → Option β) (q_impl_IsProperGame : (a0 : Int) → (a1 : Int) → (k : Bool → Option β) → Option β) (q_impl_line_put_g0 : (a0 : List ByteArray) → (a1 : List ByteArray) → (k0 : List ByteArray → List ByteArray → Option β) → Option β) (q_impl_line_putIf_g0 : (a0 : Bool) → (a1 : ByteArray) → (a2 : List ByteArray) → (k0 : List ByteArray → Option β) → (k1 : List ByteArray → Option β) → Option β) (q_impl_line_text_g0 : (a0 : List ByteArray) → (k0 : ByteArray → List ByteArray → Option β) → Option β)  (a0 : Int) (a1 : Int) (K : TV → Option β) : evFn lay (VE26 N q_impl_IsSimpleGame q_impl_MinimalPoints q_impl_listText q_impl_BanzhafNumbers q_impl_ShapleyNumbers q_impl_VetoPlayers q_impl_DummyPlayers q_impl_IsProperGame q_impl_line_put_g0 q_impl_line_putIf_g0 q_impl_line_text_g0) Tryd.f26 [.v (.agg [.int .i64 a0, .int .i64 a1])] K = BV_impl_GameLine N q_impl_IsSimpleGame q_impl_MinimalPoints q_impl_listText q_impl_BanzhafNumbers q_impl_ShapleyNumbers q_impl_line_put_g0 q_impl_VetoPlayers q_impl_DummyPlayers q_impl_IsProperGame q_impl_line_putIf_g0 q_impl_line_text_g0 a0 a1 (fun z2 => K (.v (.one (.str z2)))) := by kernel_rfl
theorem e26_0 {β : Type} (N : Nat)  (a0 : Int) (a1 : Int) (K : TV → Option β) : evFn lay (E26 N) Tryd.f26 [.v (.agg [.int .i64 a0, .int .i64 a1])] K = impl_GameLine N a0 a1 (fun z2 => K (.v (.one (.str z2)))) := (ve26_0 N (impl_IsSimpleGame N) (impl_MinimalPoints N) (impl_listText N) (impl_BanzhafNumbers N) (impl_ShapleyNumbers N) (impl_VetoPlayers N) (impl_DummyPlayers N) (impl_IsProperGame N) (impl_line_put_g0 N) (impl_line_putIf_g0 N) (impl_line_text_g0 N) a0 a1 K).trans (t_impl_GameLine N a0 a1 (fun z2 => K (.v (.one (.str z2))))).symm
theorem o26 {β : Type} (N : Nat) : SpecOK (β := β) inv Tryd.prog 26 (S26 N) := by
  refine spec_of lay_ok mixed (E := E26 N) (specs_loops (specs_cons (o77 N) (specs_cons (o78 N) (specs_cons (o61 N) (specs_cons (o79 N) (specs_cons (o80 N) (specs_cons (o81 N) (specs_cons (o82 N) (specs_cons (o84 N) specs_nil))))))))) muts_nil (gs_cons (o60 N) (gs_cons (o83 N) (gs_cons (o68 N) gs_nil))) Tryd.func26 (by kernel_rfl) 0 (by kernel_rfl) trivial fun args K r h => ?_
  unfold S26 VS26 at h
  split at h
  · exact (e26_0 N _ _ _).trans h
  · cases h
def VS7 {β : Type} (N : Nat) (q_laws_FnExactGameLine : (a0 : Int) → (a1 : Int) → (k : Bool → Option β) → Option β) : Rv.Spec β := fun args K => match args with
  | [.v (.agg [.int .i64 a0, .int .i64 a1])] => q_laws_FnExactGameLine a0 a1 (fun z2 => K (.v (.one (.bool z2))))
  | _ => none
def S7 {β : Type} (N : Nat) : Rv.Spec β := VS7 N (laws_FnExactGameLine N)
def VE7 {β : Type} (N : Nat) (q_laws_toTable : (a0 : Int) → (a1 : Int) → (k : Int → Int → Option β) → Option β) (q_spec_GameLine : (a0 : Int) → (a1 : Int) → (k : ByteArray → Option β) → Option β) (q_impl_GameLine : (a0 : Int) → (a1 : Int) → (k : ByteArray → Option β) → Option β) : Env β := ⟨[(11, VS11 N q_laws_toTable), (25, VS25 N q_spec_GameLine), (26, VS26 N q_impl_GameLine)], [], [], [], ⟨[], [], []⟩⟩
def E7 {β : Type} (N : Nat) : Env β := VE7 N (laws_toTable N) (spec_GameLine N) (impl_GameLine N)
def BV_laws_FnExactGameLine {β : Type} (N : Nat) (q_laws_toTable : (a0 : Int) → (a1 : Int) → (k : Int → Int → Option β) → Option β) (q_spec_GameLine : (a0 : Int) → (a1 : Int) → (k : ByteArray → Option β) → Option β) (q_impl_GameLine : (a0 : Int) → (a1 : Int) → (k : ByteArray → Option β) → Option β) (a0 : Int) (a1 : Int) (k : Bool → Option β) : Option β :=
q_laws_toTable a0 a1 fun r3 r4 =>
q_spec_GameLine r3 r4 fun r5 =>
q_laws_toTable a0 a1 fun r6 r7 =>
q_impl_GameLine r6 r7 fun r8 =>
(cond ((!(r8.toList == r5.toList)))
(k false)
(k true))
theorem t_laws_FnExactGameLine {β : Type} (N : Nat) (a0 : Int) (a1 : Int) (k : Bool → Option β) : laws_FnExactGameLine N a0 a1 k = BV_laws_FnExactGameLine N (laws_toTable N) (spec_GameLine N) (impl_GameLine N) a0 a1 k := by
  unfold laws_FnExactGameLine BV_laws_FnExactGameLine
  rfl
theorem ve7_0 {β : Type} (N : Nat) (q_laws_toTable : (a0 : Int) → (a1 : Int) → (k : Int → Int → Option β) → Option β) (q_spec_GameLine : (a0 : Int) → (a1 : Int) → (k : ByteArray → Option β) → Option β) (q_impl_GameLine : (a0 : Int) → (a1 : Int) → (k : ByteArray → Option β) → Option β)  (a0 : Int) (a1 : Int) (K : TV → Option β) : evFn lay (VE7 N q_laws_toTable q_spec_GameLine q_impl_GameLine) Tryd.f7 [.v (.agg [.int .i64 a0, .int .i64 a1])] K = BV_laws_FnExactGameLine N q_laws_toTable q_spec_GameLine q_impl_GameLine a0 a1 (fun z2 => K (.v (.one (.bool z2)))) := by kernel_rfl
theorem e7_0 {β : Type} (N : Nat)  (a0 : Int) (a1 : Int) (K : TV → Option β) : evFn lay (E7 N) Tryd.f7 [.v (.agg [.int .i64 a0, .int .i64 a1])] K = laws_FnExactGameLine N a0 a1 (fun z2 => K (.v (.one (.bool z2)))) := (ve7_0 N (laws_toTable N) (spec_GameLine N) (impl_GameLine N) a0 a1 K).trans (t_laws_FnExactGameLine N a0 a1 (fun z2 => K (.v (.one (.bool z2))))).symm
theorem o7 {β : Type} (N : Nat) : SpecOK (β := β) inv Tryd.prog 7 (S7 N) := by
  refine spec_of lay_ok mixed (E := E7 N) (specs_loops (specs_cons (o11 N) (specs_cons (o25 N) (specs_cons (o26 N) specs_nil)))) muts_nil gs_nil Tryd.func7 (by kernel_rfl) 0 (by kernel_rfl) trivial fun args K r h => ?_
  unfold S7 VS7 at h
  split at h
  · exact (e7_0 N _ _ _).trans h
  · cases h
end Go.Proofs.YtfdggelojmofmaaDoor
