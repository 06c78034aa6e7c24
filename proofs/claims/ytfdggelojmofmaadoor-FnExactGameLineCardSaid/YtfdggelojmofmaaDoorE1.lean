/- The functions that the claims reach answer as their texts do. -/
import Derived.Test.YtfdggelojmofmaaDoorE0
namespace Go.Proofs.YtfdggelojmofmaaDoor
open Go.Rv
set_option maxRecDepth 100000
set_option maxHeartbeats 2000000
set_option linter.unusedVariables false
def VS133 {β : Type} (N : Nat) (q_spec_InfluenceOf : (a0 : Int) → (a1 : Int) → (a2 : Int) → (k : Int → Option β) → Option β) : Rv.Spec β := fun args K => match args with
  | [.v (.agg [.int .i64 a0, .int .i64 a1]), .v (.one (.int .i64 a2))] => q_spec_InfluenceOf a0 a1 a2 (fun z3 => K (.v (.one (.int .i64 z3))))
  | _ => none
def S133 {β : Type} (N : Nat) : Rv.Spec β := VS133 N (spec_InfluenceOf N)
def h133_0_0  (v0 : Int) (v1 : Int) (v2 : Int) (v3 : Int) (v4 : Int) : St := ⟨.v (.one .und) :: .v (.one (.int .i64 v0)) :: .v (.one (.ptr 0 0)) :: .v (.one .und) :: .v (.one .und) :: .v (.one (.int .i64 v1)) :: .v (.one (.int .i64 v2)) :: .v (.one .und) :: .v (.one .und) :: .v (.one .und) :: .v (.one .und) :: .v (.one .und) :: .v (.one .und) :: .v (.one .und) :: .v (.one .und) :: .v (.one .und) :: .v (.one .und) :: .v (.one .und) :: .v (.one .und) :: .v (.one .und) :: .v (.one .und) :: .v (.one .und) :: .v (.one .und) :: .v (.one .und) :: .v (.one .und) :: .v (.one .und) :: .v (.one .und) :: .v (.one .und) :: .v (.one .und) :: .v (.one .und) :: .v (.one .und) :: .v (.one .und) :: .v (.one .und) :: .v (.one .und) :: .v (.one .und) :: .v (.one .und) :: .v (.one .und) :: .v (.one .und) :: .v (.one .und) :: .v (.one .und) :: .v (.one .und) :: [], [.cells 24 [.int .i64 v3, .int .i64 v4]]⟩
def x133_0_0_k0  (y0 : Int) : St := ⟨.v (.one .und) :: .v (.one .und) :: .v (.one .und) :: .v (.one .und) :: .v (.one .und) :: .v (.one (.int .i64 y0)) :: .v (.one .und) :: .v (.one .und) :: .v (.one .und) :: .v (.one .und) :: .v (.one .und) :: .v (.one .und) :: .v (.one .und) :: .v (.one .und) :: .v (.one .und) :: .v (.one .und) :: .v (.one .und) :: .v (.one .und) :: .v (.one .und) :: .v (.one .und) :: .v (.one .und) :: .v (.one .und) :: .v (.one .und) :: .v (.one .und) :: .v (.one .und) :: .v (.one .und) :: .v (.one .und) :: .v (.one .und) :: .v (.one .und) :: .v (.one .und) :: .v (.one .und) :: .v (.one .und) :: .v (.one .und) :: .v (.one .und) :: .v (.one .und) :: .v (.one .und) :: .v (.one .und) :: .v (.one .und) :: .v (.one .und) :: .v (.one .und) :: .v (.one .und) :: [], []⟩
theorem fl133_0_0 (s : St) : refSt (h133_0_0 0 0 0 0 0) s = h133_0_0 (intS (oneA (vT (nx tund s.tmps 1)))) (intS (oneA (vT (nx tund s.tmps 5)))) (intS (oneA (vT (nx tund s.tmps 6)))) (intS (nx .und (cellsB (nx .dead s.blks 0)) 0)) (intS (nx .und (cellsB (nx .dead s.blks 0)) 1)) := by kernel_rfl
def VLS133_0 {β : Type} (N : Nat) (q_spec_InfluenceOf_l0 : Nat → Int → Int → Int → Int → Int → (Int → Option β) → Option β) : LSpec β := fun s K => cond (shpSt (h133_0_0 0 0 0 0 0) s) ((fun (v0 : Int) (v1 : Int) (v2 : Int) (v3 : Int) (v4 : Int) => q_spec_InfluenceOf_l0  N v0 v1 v2 v3 v4 (fun y0 => K (.exit 0) (x133_0_0_k0  y0))) (intS (oneA (vT (nx tund s.tmps 1)))) (intS (oneA (vT (nx tund s.tmps 5)))) (intS (oneA (vT (nx tund s.tmps 6)))) (intS (nx .und (cellsB (nx .dead s.blks 0)) 0)) (intS (nx .und (cellsB (nx .dead s.blks 0)) 1))) (none)
def LS133_0 {β : Type} (N : Nat) : LSpec β := VLS133_0 N (spec_InfluenceOf_l0 N)
def VE133 {β : Type} (N : Nat) (q_spec_IsTable : (a0 : Int) → (a1 : Int) → (k : Bool → Option β) → Option β) (q_spec_l1In : (a0 : Int) → (a1 : Int) → (a2 : Int) → (k : Bool → Option β) → Option β) (q_spec_InfluenceOf_l0 : Nat → Int → Int → Int → Int → Int → (Int → Option β) → Option β) : Env β := ⟨[(51, VS51 N q_spec_IsTable), (43, VS43 N q_spec_l1In)], [], [(0, VLS133_0 N q_spec_InfluenceOf_l0)], [], ⟨[], [], []⟩⟩
def E133 {β : Type} (N : Nat) : Env β := VE133 N (spec_IsTable N) (spec_l1In N) (spec_InfluenceOf_l0 N)
def BV_spec_InfluenceOf_l0b {β : Type} (N : Nat)  (v0 : Int) (v1 : Int) (v2 : Int) (v3 : Int) (v4 : Int) (rec_ : Int → Int → Int → Int → Int → Option β) (k0 : Int → Option β) : Option β :=
(gd ((decide (0 ≤ v3)))
((cond ((decide (v2 < (shlI .i64 1 v3))))
((gd ((decide (0 ≤ v2)))
((gd ((decide (0 ≤ v0)))
((gd ((decide (0 ≤ (bits .xor .i64 v2 (shlI .i64 1 v0)))))
(rec_ v0 ((w64 (v1 + (bits .and .i64 (bits .xor .i64 (shrI .i64 v4 v2) (shrI .i64 v4 (bits .xor .i64 v2 (shlI .i64 1 v0)))) 1)))) ((w64 (v2 + 1))) v3 v4)))))))
(k0 v1))))
theorem t_spec_InfluenceOf_l0b {β : Type} (N : Nat)  (v0 : Int) (v1 : Int) (v2 : Int) (v3 : Int) (v4 : Int) (rec_ : Int → Int → Int → Int → Int → Option β) (k0 : Int → Option β) : spec_InfluenceOf_l0b N v0 v1 v2 v3 v4 rec_ k0 = BV_spec_InfluenceOf_l0b N v0 v1 v2 v3 v4 rec_ k0 := by
  unfold spec_InfluenceOf_l0b BV_spec_InfluenceOf_l0b
  rfl
theorem vst133_0_0 {β : Type} (N : Nat) (q_spec_IsTable : (a0 : Int) → (a1 : Int) → (k : Bool → Option β) → Option β) (q_spec_l1In : (a0 : Int) → (a1 : Int) → (a2 : Int) → (k : Bool → Option β) → Option β) (q_spec_InfluenceOf_l0 : Nat → Int → Int → Int → Int → Int → (Int → Option β) → Option β)  (v0 : Int) (v1 : Int) (v2 : Int) (v3 : Int) (v4 : Int) (rec_ : St → Option β) (K : Exit → St → Option β) :
    ev lay (VE133 N q_spec_IsTable q_spec_l1In q_spec_InfluenceOf_l0) (retMask Tryd.f133) (lp Tryd.f133 0).body (lp Tryd.f133 0).ex ((lp Tryd.f133 0).lv (retMask Tryd.f133)) (h133_0_0  v0 v1 v2 v3 v4) (nextR (fun s' => rec_ (s'.tidy ((lp Tryd.f133 0).lv (retMask Tryd.f133)))) K) = BV_spec_InfluenceOf_l0b N  v0 v1 v2 v3 v4 (fun v0 v1 v2 v3 v4 => rec_ (h133_0_0  v0 v1 v2 v3 v4)) (fun y0 => K (.exit 0) (x133_0_0_k0  y0)) := by kernel_rfl
theorem st133_0_0 {β : Type} (N : Nat)  (v0 : Int) (v1 : Int) (v2 : Int) (v3 : Int) (v4 : Int) (rec_ : St → Option β) (K : Exit → St → Option β) :
    ev lay (E133 N) (retMask Tryd.f133) (lp Tryd.f133 0).body (lp Tryd.f133 0).ex ((lp Tryd.f133 0).lv (retMask Tryd.f133)) (h133_0_0  v0 v1 v2 v3 v4) (nextR (fun s' => rec_ (s'.tidy ((lp Tryd.f133 0).lv (retMask Tryd.f133)))) K) = spec_InfluenceOf_l0b N  v0 v1 v2 v3 v4 (fun v0 v1 v2 v3 v4 => rec_ (h133_0_0  v0 v1 v2 v3 v4)) (fun y0 => K (.exit 0) (x133_0_0_k0  y0)) := (vst133_0_0 N (spec_IsTable N) (spec_l1In N) (spec_InfluenceOf_l0 N) v0 v1 v2 v3 v4 rec_ K).trans (t_spec_InfluenceOf_l0b N  v0 v1 v2 v3 v4 (fun v0 v1 v2 v3 v4 => rec_ (h133_0_0  v0 v1 v2 v3 v4)) (fun y0 => K (.exit 0) (x133_0_0_k0  y0))).symm
theorem ro133_0_0 {β : Type} (N : Nat)  (K : Exit → St → Option β) : ∀ (F : Nat) (v0 : Int) (v1 : Int) (v2 : Int) (v3 : Int) (v4 : Int), (lp Tryd.f133 0).rounds lay (E133 N) (retMask Tryd.f133) F (h133_0_0  v0 v1 v2 v3 v4) K = spec_InfluenceOf_l0 N  F v0 v1 v2 v3 v4 (fun y0 => K (.exit 0) (x133_0_0_k0  y0)) := by
  intro F
  induction F with
  | zero => intros; rfl
  | succ F ih =>
    intros
    rw [rounds_next]
    refine (st133_0_0 N  _ _ _ _ _ (fun s => (lp Tryd.f133 0).rounds lay (E133 N) (retMask Tryd.f133) F s K) K).trans ?_
    simp only [ih]
    rfl
theorem lk133_0 {β : Type} (N : Nat) : lookL (E133 (β := β) N).loops (lp Tryd.f133 0).id = LS133_0 N := by kernel_rfl
theorem rk133_0 {β : Type} (N : Nat) : RoundsOK lay (E133 (β := β) N) (retMask Tryd.f133) (lp Tryd.f133 0) := by
  intro s K r h
  rw [lk133_0] at h
  unfold LS133_0 VLS133_0 at h
  cases hb : shpSt (h133_0_0 0 0 0 0 0) s with
  | true =>
    rw [hb, cond_true] at h
    exact ⟨N, by rw [← shpSt_ref hb, fl133_0_0 s]; exact (ro133_0_0 N  K N (intS (oneA (vT (nx tund s.tmps 1)))) (intS (oneA (vT (nx tund s.tmps 5)))) (intS (oneA (vT (nx tund s.tmps 6)))) (intS (nx .und (cellsB (nx .dead s.blks 0)) 0)) (intS (nx .und (cellsB (nx .dead s.blks 0)) 1))).trans h⟩
  | false =>
  rw [hb, cond_false] at h
  clear hb
  cases h
def BV_spec_InfluenceOf {β : Type} (N : Nat) (q_spec_IsTable : (a0 : Int) → (a1 : Int) → (k : Bool → Option β) → Option β) (q_spec_l1In : (a0 : Int) → (a1 : Int) → (a2 : Int) → (k : Bool → Option β) → Option β) (q_spec_InfluenceOf_l0 : Nat → Int → Int → Int → Int → Int → (Int → Option β) → Option β) (a0 : Int) (a1 : Int) (a2 : Int) (k : Int → Option β) : Option β :=
q_spec_IsTable a0 a1 fun r4 =>
(cond (!r4)
(k (-1))
(q_spec_l1In a2 0 ((w64 (a0 - 1))) fun r5 =>
(cond (!r5)
(k (-1))
(q_spec_InfluenceOf_l0  N a2 0 0 a0 a1 (fun e6_0 =>
k e6_0)))))
theorem t_spec_InfluenceOf {β : Type} (N : Nat) (a0 : Int) (a1 : Int) (a2 : Int) (k : Int → Option β) : spec_InfluenceOf N a0 a1 a2 k = BV_spec_InfluenceOf N (spec_IsTable N) (spec_l1In N) (spec_InfluenceOf_l0 N) a0 a1 a2 k := by
  unfold spec_InfluenceOf BV_spec_InfluenceOf
  rfl
theorem ve133_0 {β : Type} (N : Nat) (q_spec_IsTable : (a0 : Int) → (a1 : Int) → (k : Bool → Option β) → Option β) (q_spec_l1In : (a0 : Int) → (a1 : Int) → (a2 : Int) → (k : Bool → Option β) → Option β) (q_spec_InfluenceOf_l0 : Nat → Int → Int → Int → Int → Int → (Int → Option β) → Option β)  (a0 : Int) (a1 : Int) (a2 : Int) (K : TV → Option β) : evFn lay (VE133 N q_spec_IsTable q_spec_l1In q_spec_InfluenceOf_l0) Tryd.f133 [.v (.agg [.int .i64 a0, .int .i64 a1]), .v (.one (.int .i64 a2))] K = BV_spec_InfluenceOf N q_spec_IsTable q_spec_l1In q_spec_InfluenceOf_l0 a0 a1 a2 (fun z3 => K (.v (.one (.int .i64 z3)))) := by kernel_rfl
theorem e133_0 {β : Type} (N : Nat)  (a0 : Int) (a1 : Int) (a2 : Int) (K : TV → Option β) : evFn lay (E133 N) Tryd.f133 [.v (.agg [.int .i64 a0, .int .i64 a1]), .v (.one (.int .i64 a2))] K = spec_InfluenceOf N a0 a1 a2 (fun z3 => K (.v (.one (.int .i64 z3)))) := (ve133_0 N (spec_IsTable N) (spec_l1In N) (spec_InfluenceOf_l0 N) a0 a1 a2 K).trans (t_spec_InfluenceOf N a0 a1 a2 (fun z3 => K (.v (.one (.int .i64 z3))))).symm
theorem o133 {β : Type} (N : Nat) : SpecOK (β := β) inv Tryd.prog 133 (S133 N) := by
  refine spec_of lay_ok mixed (E := E133 N) (specs_loops (specs_cons (o51 N) (specs_cons (o43 N) specs_nil))) muts_nil gs_nil Tryd.func133 (by kernel_rfl) 1 (by kernel_rfl) ⟨trivial, rk133_0 N⟩ fun args K r h => ?_
  unfold S133 VS133 at h
  split at h
  · exact (e133_0 N _ _ _ _).trans h
  · cases h
def VS71 {β : Type} (N : Nat) (q_spec_BanzhafNumbers : (a0 : Int) → (a1 : Int) → (k : List Int → Option β) → Option β) : Rv.Spec β := fun args K => match args with
  | [.v (.agg [.int .i64 a0, .int .i64 a1])] => q_spec_BanzhafNumbers a0 a1 (fun z2 => K (.v (.one (.sl 3 (.ints .i64 z2)))))
  | _ => none
def S71 {β : Type} (N : Nat) : Rv.Spec β := VS71 N (spec_BanzhafNumbers N)
def h71_0_0  (v0 : Int) (v1 : Int) (v2 : Int) (v3 : List Int) : St := ⟨.v (.one .und) :: .v (.one (.ptr 0 0)) :: .v (.one .und) :: .v (.one (.row 1)) :: .v (.one (.int .i64 v0)) :: .v (.one .und) :: .v (.one .und) :: .v (.one .und) :: .v (.one .und) :: .v (.one .und) :: .v (.one .und) :: .v (.one .und) :: .v (.one .und) :: .v (.one .und) :: .v (.one .und) :: .v (.one .und) :: .v (.one .und) :: .v (.one .und) :: .v (.one .und) :: .v (.one .und) :: .v (.one .und) :: .v (.one .und) :: .v (.one .und) :: .v (.one .und) :: [], [.cells 24 [.int .i64 v1, .int .i64 v2], .row 3 (.ints .i64 v3)]⟩
def x71_0_0_k0  (y0 : List Int) : St := ⟨.v (.one .und) :: .v (.one .und) :: .v (.one .und) :: .v (.one (.row 0)) :: .v (.one .und) :: .v (.one .und) :: .v (.one .und) :: .v (.one .und) :: .v (.one .und) :: .v (.one .und) :: .v (.one .und) :: .v (.one .und) :: .v (.one .und) :: .v (.one .und) :: .v (.one .und) :: .v (.one .und) :: .v (.one .und) :: .v (.one .und) :: .v (.one .und) :: .v (.one .und) :: .v (.one .und) :: .v (.one .und) :: .v (.one .und) :: .v (.one .und) :: [], [.row 3 (.ints .i64 y0)]⟩
theorem fl71_0_0 (s : St) : refSt (h71_0_0 0 0 0 []) s = h71_0_0 (intS (oneA (vT (nx tund s.tmps 4)))) (intS (nx .und (cellsB (nx .dead s.blks 0)) 0)) (intS (nx .und (cellsB (nx .dead s.blks 0)) 1)) (rInts (rowB_ (nx .dead s.blks 1))) := by kernel_rfl
def VLS71_0 {β : Type} (N : Nat) (q_spec_BanzhafNumbers_l0 : Nat → Int → Int → Int → List Int → (List Int → Option β) → Option β) : LSpec β := fun s K => cond (shpSt (h71_0_0 0 0 0 []) s) ((fun (v0 : Int) (v1 : Int) (v2 : Int) (v3 : List Int) => q_spec_BanzhafNumbers_l0  N v0 v1 v2 v3 (fun y0 => K (.exit 0) (x71_0_0_k0  y0))) (intS (oneA (vT (nx tund s.tmps 4)))) (intS (nx .und (cellsB (nx .dead s.blks 0)) 0)) (intS (nx .und (cellsB (nx .dead s.blks 0)) 1)) (rInts (rowB_ (nx .dead s.blks 1)))) (none)
def LS71_0 {β : Type} (N : Nat) : LSpec β := VLS71_0 N (spec_BanzhafNumbers_l0 N)
def VE71 {β : Type} (N : Nat) (q_spec_IsSimpleGame : (a0 : Int) → (a1 : Int) → (k : Bool → Option β) → Option β) (q_spec_InfluenceOf : (a0 : Int) → (a1 : Int) → (a2 : Int) → (k : Int → Option β) → Option β) (q_spec_BanzhafNumbers_l0 : Nat → Int → Int → Int → List Int → (List Int → Option β) → Option β) : Env β := ⟨[(69, VS69 N q_spec_IsSimpleGame), (133, VS133 N q_spec_InfluenceOf)], [], [(0, VLS71_0 N q_spec_BanzhafNumbers_l0)], [], ⟨[], [], []⟩⟩
def E71 {β : Type} (N : Nat) : Env β := VE71 N (spec_IsSimpleGame N) (spec_InfluenceOf N) (spec_BanzhafNumbers_l0 N)
def BV_spec_BanzhafNumbers_l0b {β : Type} (N : Nat) (q_spec_IsSimpleGame : (a0 : Int) → (a1 : Int) → (k : Bool → Option β) → Option β) (q_spec_InfluenceOf : (a0 : Int) → (a1 : Int) → (a2 : Int) → (k : Int → Option β) → Option β)  (v0 : Int) (v1 : Int) (v2 : Int) (v3 : List Int) (rec_ : Int → Int → Int → List Int → Option β) (k0 : List Int → Option β) : Option β :=
q_spec_IsSimpleGame v1 v2 fun r3 =>
(cond r3
((cond ((decide (v0 < v1)))
(q_spec_InfluenceOf v1 v2 v0 fun r4 =>
(gd ((decide ((v3.length + ((([] : List Int) ++ [(quoI .i64 r4 2)])).length) * 8 ≤ 140737488355328)))
(rec_ ((w64 (v0 + 1))) v1 v2 ((v3 ++ (([] : List Int) ++ [(quoI .i64 r4 2)]))))))
(k0 v3)))
(k0 v3))
theorem t_spec_BanzhafNumbers_l0b {β : Type} (N : Nat)  (v0 : Int) (v1 : Int) (v2 : Int) (v3 : List Int) (rec_ : Int → Int → Int → List Int → Option β) (k0 : List Int → Option β) : spec_BanzhafNumbers_l0b N v0 v1 v2 v3 rec_ k0 = BV_spec_BanzhafNumbers_l0b N (spec_IsSimpleGame N) (spec_InfluenceOf N) v0 v1 v2 v3 rec_ k0 := by
  unfold spec_BanzhafNumbers_l0b BV_spec_BanzhafNumbers_l0b
  rfl
theorem vst71_0_0 {β : Type} (N : Nat) (q_spec_IsSimpleGame : (a0 : Int) → (a1 : Int) → (k : Bool → Option β) → Option β) (q_spec_InfluenceOf : (a0 : Int) → (a1 : Int) → (a2 : Int) → (k : Int → Option β) → Option β) (q_spec_BanzhafNumbers_l0 : Nat → Int → Int → Int → List Int → (List Int → Option β) → Option β)  (v0 : Int) (v1 : Int) (v2 : Int) (v3 : List Int) (rec_ : St → Option β) (K : Exit → St → Option β) :
    ev lay (VE71 N q_spec_IsSimpleGame q_spec_InfluenceOf q_spec_BanzhafNumbers_l0) (retMask Tryd.f71) (lp Tryd.f71 0).body (lp Tryd.f71 0).ex ((lp Tryd.f71 0).lv (retMask Tryd.f71)) (h71_0_0  v0 v1 v2 v3) (nextR (fun s' => rec_ (s'.tidy ((lp Tryd.f71 0).lv (retMask Tryd.f71)))) K) = BV_spec_BanzhafNumbers_l0b N q_spec_IsSimpleGame q_spec_InfluenceOf  v0 v1 v2 v3 (fun v0 v1 v2 v3 => rec_ (h71_0_0  v0 v1 v2 v3)) (fun y0 => K (.exit 0) (x71_0_0_k0  y0)) := by kernel_rfl
theorem st71_0_0 {β : Type} (N : Nat)  (v0 : Int) (v1 : Int) (v2 : Int) (v3 : List Int) (rec_ : St → Option β) (K : Exit → St → Option β) :
    ev lay (E71 N) (retMask Tryd.f71) (lp Tryd.f71 0).body (lp Tryd.f71 0).ex ((lp Tryd.f71 0).lv (retMask Tryd.f71)) (h71_0_0  v0 v1 v2 v3) (nextR (fun s' => rec_ (s'.tidy ((lp Tryd.f71 0).lv (retMask Tryd.f71)))) K) = spec_BanzhafNumbers_l0b N  v0 v1 v2 v3 (fun v0 v1 v2 v3 => rec_ (h71_0_0  v0 v1 v2 v3)) (fun y0 => K (.exit 0) (x71_0_0_k0  y0)) := (vst71_0_0 N (spec_IsSimpleGame N) (spec_InfluenceOf N) (spec_BanzhafNumbers_l0 N) v0 v1 v2 v3 rec_ K).trans (t_spec_BanzhafNumbers_l0b N  v0 v1 v2 v3 (fun v0 v1 v2 v3 => rec_ (h71_0_0  v0 v1 v2 v3)) (fun y0 => K (.exit 0) (x71_0_0_k0  y0))).symm
theorem ro71_0_0 {β : Type} (N : Nat)  (K : Exit → St → Option β) : ∀ (F : Nat) (v0 : Int) (v1 : Int) (v2 : Int) (v3 : List Int), (lp Tryd.f71 0).rounds lay (E71 N) (retMask Tryd.f71) F (h71_0_0  v0 v1 v2 v3) K = spec_BanzhafNumbers_l0 N  F v0 v1 v2 v3 (fun y0 => K (.exit 0) (x71_0_0_k0  y0)) := by
  intro F
  induction F with
  | zero => intros; rfl
  | succ F ih =>
    intros
    rw [rounds_next]
    refine (st71_0_0 N  _ _ _ _ (fun s => (lp Tryd.f71 0).rounds lay (E71 N) (retMask Tryd.f71) F s K) K).trans ?_
    simp only [ih]
    rfl
theorem lk71_0 {β : Type} (N : Nat) : lookL (E71 (β := β) N).loops (lp Tryd.f71 0).id = LS71_0 N := by kernel_rfl
theorem rk71_0 {β : Type} (N : Nat) : RoundsOK lay (E71 (β := β) N) (retMask Tryd.f71) (lp Tryd.f71 0) := by
  intro s K r h
  rw [lk71_0] at h
  unfold LS71_0 VLS71_0 at h
  cases hb : shpSt (h71_0_0 0 0 0 []) s with
  | true =>
    rw [hb, cond_true] at h
    exact ⟨N, by rw [← shpSt_ref hb, fl71_0_0 s]; exact (ro71_0_0 N  K N (intS (oneA (vT (nx tund s.tmps 4)))) (intS (nx .und (cellsB (nx .dead s.blks 0)) 0)) (intS (nx .und (cellsB (nx .dead s.blks 0)) 1)) (rInts (rowB_ (nx .dead s.blks 1)))).trans h⟩
  | false =>
  rw [hb, cond_false] at h
  clear hb
  cases h
def BV_spec_BanzhafNumbers {β : Type} (N : Nat) (q_spec_BanzhafNumbers_l0 : Nat → Int → Int → Int → List Int → (List Int → Option β) → Option β) (a0 : Int) (a1 : Int) (k : List Int → Option β) : Option β :=
q_spec_BanzhafNumbers_l0  N 0 a0 a1 (([] : List Int)) (fun e5_0 =>
k e5_0)
theorem t_spec_BanzhafNumbers {β : Type} (N : Nat) (a0 : Int) (a1 : Int) (k : List Int → Option β) : spec_BanzhafNumbers N a0 a1 k = BV_spec_BanzhafNumbers N (spec_BanzhafNumbers_l0 N) a0 a1 k := by
  unfold spec_BanzhafNumbers BV_spec_BanzhafNumbers
  rfl
theorem ve71_0 {β : Type} (N : Nat) (q_spec_IsSimpleGame : (a0 : Int) → (a1 : Int) → (k : Bool → Option β) → Option β) (q_spec_InfluenceOf : (a0 : Int) → (a1 : Int) → (a2 : Int) → (k : Int → Option β) → Option β) (q_spec_BanzhafNumbers_l0 : Nat → Int → Int → Int → List Int → (List Int → Option β) → Option β)  (a0 : Int) (a1 : Int) (K : TV → Option β) : evFn lay (VE71 N q_spec_IsSimpleGame q_spec_InfluenceOf q_spec_BanzhafNumbers_l0) Tryd.f71 [.v (.agg [.int .i64 a0, .int .i64 a1])] K = BV_spec_BanzhafNumbers N q_spec_BanzhafNumbers_l0 a0 a1 (fun z2 => K (.v (.one (.sl 3 (.ints .i64 z2))))) := by kernel_rfl
theorem e71_0 {β : Type} (N : Nat)  (a0 : Int) (a1 : Int) (K : TV → Option β) : evFn lay (E71 N) Tryd.f71 [.v (.agg [.int .i64 a0, .int .i64 a1])] K = spec_BanzhafNumbers N a0 a1 (fun z2 => K (.v (.one (.sl 3 (.ints .i64 z2))))) := (ve71_0 N (spec_IsSimpleGame N) (spec_InfluenceOf N) (spec_BanzhafNumbers_l0 N) a0 a1 K).trans (t_spec_BanzhafNumbers N a0 a1 (fun z2 => K (.v (.one (.sl 3 (.ints .i64 z2)))))).symm
theorem o71 {β : Type} (N : Nat) : SpecOK (β := β) inv Tryd.prog 71 (S71 N) := by
  refine spec_of lay_ok mixed (E := E71 N) (specs_loops (specs_cons (o69 N) (specs_cons (o133 N) specs_nil))) muts_nil gs_nil Tryd.func71 (by kernel_rfl) 1 (by kernel_rfl) ⟨trivial, rk71_0 N⟩ fun args K r h => ?_
  unfold S71 VS71 at h
  split at h
  · exact (e71_0 N _ _ _).trans h
  · cases h
def VS124 {β : Type} (N : Nat) (q_spec_l2Count : (a0 : Int) → (k : Int → Option β) → Option β) : Rv.Spec β := fun args K => match args with
  | [.v (.one (.int .i64 a0))] => q_spec_l2Count a0 (fun z1 => K (.v (.one (.int .i64 z1))))
  | _ => none
def S124 {β : Type} (N : Nat) : Rv.Spec β := VS124 N (spec_l2Count N)
def h124_0_0  (v0 : Int) (v1 : Int) : St := ⟨.v (.one .und) :: .v (.one .und) :: .v (.one .und) :: .v (.one (.int .i64 v0)) :: .v (.one (.int .i64 v1)) :: .v (.one .und) :: .v (.one .und) :: .v (.one .und) :: .v (.one .und) :: .v (.one .und) :: .v (.one .und) :: .v (.one .und) :: .v (.one .und) :: .v (.one .und) :: .v (.one .und) :: [], []⟩
def x124_0_0_k0  (y0 : Int) : St := ⟨.v (.one .und) :: .v (.one .und) :: .v (.one .und) :: .v (.one (.int .i64 y0)) :: .v (.one .und) :: .v (.one .und) :: .v (.one .und) :: .v (.one .und) :: .v (.one .und) :: .v (.one .und) :: .v (.one .und) :: .v (.one .und) :: .v (.one .und) :: .v (.one .und) :: .v (.one .und) :: [], []⟩
theorem fl124_0_0 (s : St) : refSt (h124_0_0 0 0) s = h124_0_0 (intS (oneA (vT (nx tund s.tmps 3)))) (intS (oneA (vT (nx tund s.tmps 4)))) := by kernel_rfl
def VLS124_0 {β : Type} (N : Nat) (q_spec_l2Count_l0 : Nat → Int → Int → (Int → Option β) → Option β) : LSpec β := fun s K => cond (shpSt (h124_0_0 0 0) s) ((fun (v0 : Int) (v1 : Int) => q_spec_l2Count_l0  N v0 v1 (fun y0 => K (.exit 0) (x124_0_0_k0  y0))) (intS (oneA (vT (nx tund s.tmps 3)))) (intS (oneA (vT (nx tund s.tmps 4))))) (none)
def LS124_0 {β : Type} (N : Nat) : LSpec β := VLS124_0 N (spec_l2Count_l0 N)
def VE124 {β : Type} (N : Nat) (q_spec_l2Count_l0 : Nat → Int → Int → (Int → Option β) → Option β) : Env β := ⟨[], [], [(0, VLS124_0 N q_spec_l2Count_l0)], [], ⟨[], [], []⟩⟩
def E124 {β : Type} (N : Nat) : Env β := VE124 N (spec_l2Count_l0 N)
def BV_spec_l2Count_l0b {β : Type} (N : Nat)  (v0 : Int) (v1 : Int) (rec_ : Int → Int → Option β) (k0 : Int → Option β) : Option β :=
(cond ((decide (v1 > 0)))
(rec_ ((w64 (v0 + (bits .and .i64 v1 1)))) ((shrI .i64 v1 1)))
(k0 v0))
theorem t_spec_l2Count_l0b {β : Type} (N : Nat)  (v0 : Int) (v1 : Int) (rec_ : Int → Int → Option β) (k0 : Int → Option β) : spec_l2Count_l0b N v0 v1 rec_ k0 = BV_spec_l2Count_l0b N v0 v1 rec_ k0 := by
  unfold spec_l2Count_l0b BV_spec_l2Count_l0b
  rfl
theorem vst124_0_0 {β : Type} (N : Nat) (q_spec_l2Count_l0 : Nat → Int → Int → (Int → Option β) → Option β)  (v0 : Int) (v1 : Int) (rec_ : St → Option β) (K : Exit → St → Option β) :
    ev lay (VE124 N q_spec_l2Count_l0) (retMask Tryd.f124) (lp Tryd.f124 0).body (lp Tryd.f124 0).ex ((lp Tryd.f124 0).lv (retMask Tryd.f124)) (h124_0_0  v0 v1) (nextR (fun s' => rec_ (s'.tidy ((lp Tryd.f124 0).lv (retMask Tryd.f124)))) K) = BV_spec_l2Count_l0b N  v0 v1 (fun v0 v1 => rec_ (h124_0_0  v0 v1)) (fun y0 => K (.exit 0) (x124_0_0_k0  y0)) := by kernel_rfl
theorem st124_0_0 {β : Type} (N : Nat)  (v0 : Int) (v1 : Int) (rec_ : St → Option β) (K : Exit → St → Option β) :
    ev lay (E124 N) (retMask Tryd.f124) (lp Tryd.f124 0).body (lp Tryd.f124 0).ex ((lp Tryd.f124 0).lv (retMask Tryd.f124)) (h124_0_0  v0 v1) (nextR (fun s' => rec_ (s'.tidy ((lp Tryd.f124 0).lv (retMask Tryd.f124)))) K) = spec_l2Count_l0b N  v0 v1 (fun v0 v1 => rec_ (h124_0_0  v0 v1)) (fun y0 => K (.exit 0) (x124_0_0_k0  y0)) := (vst124_0_0 N (spec_l2Count_l0 N) v0 v1 rec_ K).trans (t_spec_l2Count_l0b N  v0 v1 (fun v0 v1 => rec_ (h124_0_0  v0 v1)) (fun y0 => K (.exit 0) (x124_0_0_k0  y0))).symm
theorem ro124_0_0 {β : Type} (N : Nat)  (K : Exit → St → Option β) : ∀ (F : Nat) (v0 : Int) (v1 : Int), (lp Tryd.f124 0).rounds lay (E124 N) (retMask Tryd.f124) F (h124_0_0  v0 v1) K = spec_l2Count_l0 N  F v0 v1 (fun y0 => K (.exit 0) (x124_0_0_k0  y0)) := by
  intro F
  induction F with
  | zero => intros; rfl
  | succ F ih =>
    intros
    rw [rounds_next]
    refine (st124_0_0 N  _ _ (fun s => (lp Tryd.f124 0).rounds lay (E124 N) (retMask Tryd.f124) F s K) K).trans ?_
    simp only [ih]
    rfl
theorem lk124_0 {β : Type} (N : Nat) : lookL (E124 (β := β) N).loops (lp Tryd.f124 0).id = LS124_0 N := by kernel_rfl
theorem rk124_0 {β : Type} (N : Nat) : RoundsOK lay (E124 (β := β) N) (retMask Tryd.f124) (lp Tryd.f124 0) := by
  intro s K r h
  rw [lk124_0] at h
  unfold LS124_0 VLS124_0 at h
  cases hb : shpSt (h124_0_0 0 0) s with
  | true =>
    rw [hb, cond_true] at h
    exact ⟨N, by rw [← shpSt_ref hb, fl124_0_0 s]; exact (ro124_0_0 N  K N (intS (oneA (vT (nx tund s.tmps 3)))) (intS (oneA (vT (nx tund s.tmps 4))))).trans h⟩
  | false =>
  rw [hb, cond_false] at h
  clear hb
  cases h
def BV_spec_l2Count {β : Type} (N : Nat) (q_spec_l2Count_l0 : Nat → Int → Int → (Int → Option β) → Option β) (a0 : Int) (k : Int → Option β) : Option β :=
q_spec_l2Count_l0  N 0 a0 (fun e2_0 =>
k e2_0)
theorem t_spec_l2Count {β : Type} (N : Nat) (a0 : Int) (k : Int → Option β) : spec_l2Count N a0 k = BV_spec_l2Count N (spec_l2Count_l0 N) a0 k := by
  unfold spec_l2Count BV_spec_l2Count
  rfl
theorem ve124_0 {β : Type} (N : Nat) (q_spec_l2Count_l0 : Nat → Int → Int → (Int → Option β) → Option β)  (a0 : Int) (K : TV → Option β) : evFn lay (VE124 N q_spec_l2Count_l0) Tryd.f124 [.v (.one (.int .i64 a0))] K = BV_spec_l2Count N q_spec_l2Count_l0 a0 (fun z1 => K (.v (.one (.int .i64 z1)))) := by kernel_rfl
theorem e124_0 {β : Type} (N : Nat)  (a0 : Int) (K : TV → Option β) : evFn lay (E124 N) Tryd.f124 [.v (.one (.int .i64 a0))] K = spec_l2Count N a0 (fun z1 => K (.v (.one (.int .i64 z1)))) := (ve124_0 N (spec_l2Count_l0 N) a0 K).trans (t_spec_l2Count N a0 (fun z1 => K (.v (.one (.int .i64 z1))))).symm
theorem o124 {β : Type} (N : Nat) : SpecOK (β := β) inv Tryd.prog 124 (S124 N) := by
  refine spec_of lay_ok mixed (E := E124 N) (specs_loops specs_nil) muts_nil gs_nil Tryd.func124 (by kernel_rfl) 1 (by kernel_rfl) ⟨trivial, rk124_0 N⟩ fun args K r h => ?_
  unfold S124 VS124 at h
  split at h
  · exact (e124_0 N _ _).trans h
  · cases h
def VS72 {β : Type} (N : Nat) (q_spec_ShapleyNumbers : (a0 : Int) → (a1 : Int) → (k : List Int → Option β) → Option β) : Rv.Spec β := fun args K => match args with
  | [.v (.agg [.int .i64 a0, .int .i64 a1])] => q_spec_ShapleyNumbers a0 a1 (fun z2 => K (.v (.one (.sl 3 (.ints .i64 z2)))))
  | _ => none
def S72 {β : Type} (N : Nat) : Rv.Spec β := VS72 N (spec_ShapleyNumbers N)
def h72_0_0  (v0 : Int) (v1 : Int) (v2 : Int) (v3 : List Int) (v4 : List Int) : St := ⟨.v (.one .und) :: .v (.one (.ptr 0 0)) :: .v (.one .und) :: .v (.one (.row 1)) :: .v (.one (.row 2)) :: .v (.one (.int .i64 v0)) :: .v (.one .und) :: .v (.one .und) :: .v (.one .und) :: .v (.one .und) :: .v (.one .und) :: .v (.one .und) :: .v (.one .und) :: .v (.one .und) :: .v (.one .und) :: .v (.one .und) :: .v (.one .und) :: .v (.one .und) :: .v (.one .und) :: .v (.one .und) :: .v (.one .und) :: .v (.one .und) :: .v (.one .und) :: .v (.one .und) :: .v (.one .und) :: .v (.one .und) :: .v (.one .und) :: .v (.one .und) :: .v (.one .und) :: .v (.one .und) :: .v (.one .und) :: .v (.one .und) :: .v (.one .und) :: .v (.one .und) :: .v (.one .und) :: .v (.one .und) :: .v (.one .und) :: .v (.one .und) :: .v (.one .und) :: .v (.one .und) :: .v (.one .und) :: .v (.one .und) :: .v (.one .und) :: .v (.one .und) :: .v (.one .und) :: .v (.one .und) :: .v (.one .und) :: .v (.one .und) :: .v (.one .und) :: .v (.one .und) :: .v (.one .und) :: .v (.one .und) :: .v (.one .und) :: .v (.one .und) :: .v (.one .und) :: .v (.one .und) :: .v (.one .und) :: .v (.one .und) :: .v (.one .und) :: .v (.one .und) :: .v (.one .und) :: .v (.one .und) :: .v (.one .und) :: .v (.one .und) :: .v (.one .und) :: .v (.one .und) :: .v (.one .und) :: .v (.one .und) :: .v (.one .und) :: .v (.one .und) :: .v (.one .und) :: .v (.one .und) :: .v (.one .und) :: .v (.one .und) :: [], [.cells 24 [.int .i64 v1, .int .i64 v2], .row 3 (.ints .i64 v3), .row 3 (.ints .i64 v4)]⟩
def x72_0_0_k0  (y0 : List Int) : St := ⟨.v (.one .und) :: .v (.one .und) :: .v (.one .und) :: .v (.one (.row 0)) :: .v (.one .und) :: .v (.one .und) :: .v (.one .und) :: .v (.one .und) :: .v (.one .und) :: .v (.one .und) :: .v (.one .und) :: .v (.one .und) :: .v (.one .und) :: .v (.one .und) :: .v (.one .und) :: .v (.one .und) :: .v (.one .und) :: .v (.one .und) :: .v (.one .und) :: .v (.one .und) :: .v (.one .und) :: .v (.one .und) :: .v (.one .und) :: .v (.one .und) :: .v (.one .und) :: .v (.one .und) :: .v (.one .und) :: .v (.one .und) :: .v (.one .und) :: .v (.one .und) :: .v (.one .und) :: .v (.one .und) :: .v (.one .und) :: .v (.one .und) :: .v (.one .und) :: .v (.one .und) :: .v (.one .und) :: .v (.one .und) :: .v (.one .und) :: .v (.one .und) :: .v (.one .und) :: .v (.one .und) :: .v (.one .und) :: .v (.one .und) :: .v (.one .und) :: .v (.one .und) :: .v (.one .und) :: .v (.one .und) :: .v (.one .und) :: .v (.one .und) :: .v (.one .und) :: .v (.one .und) :: .v (.one .und) :: .v (.one .und) :: .v (.one .und) :: .v (.one .und) :: .v (.one .und) :: .v (.one .und) :: .v (.one .und) :: .v (.one .und) :: .v (.one .und) :: .v (.one .und) :: .v (.one .und) :: .v (.one .und) :: .v (.one .und) :: .v (.one .und) :: .v (.one .und) :: .v (.one .und) :: .v (.one .und) :: .v (.one .und) :: .v (.one .und) :: .v (.one .und) :: .v (.one .und) :: .v (.one .und) :: [], [.row 3 (.ints .i64 y0)]⟩
def h72_1_0  (v0 : Int) (v1 : Int) (v2 : Int) (v3 : Int) (v4 : Int) (v5 : List Int) (v6 : List Int) : St := ⟨.v (.one .und) :: .v (.one (.ptr 0 0)) :: .v (.one .und) :: .v (.one (.row 1)) :: .v (.one (.row 2)) :: .v (.one (.int .i64 v0)) :: .v (.one (.int .i64 v1)) :: .v (.one (.int .i64 v2)) :: .v (.one .und) :: .v (.one .und) :: .v (.one .und) :: .v (.one .und) :: .v (.one .und) :: .v (.one .und) :: .v (.one .und) :: .v (.one .und) :: .v (.one .und) :: .v (.one .und) :: .v (.one .und) :: .v (.one .und) :: .v (.one .und) :: .v (.one .und) :: .v (.one .und) :: .v (.one .und) :: .v (.one .und) :: .v (.one .und) :: .v (.one .und) :: .v (.one .und) :: .v (.one .und) :: .v (.one .und) :: .v (.one .und) :: .v (.one .und) :: .v (.one .und) :: .v (.one .und) :: .v (.one .und) :: .v (.one .und) :: .v (.one .und) :: .v (.one .und) :: .v (.one .und) :: .v (.one .und) :: .v (.one .und) :: .v (.one .und) :: .v (.one .und) :: .v (.one .und) :: .v (.one .und) :: .v (.one .und) :: .v (.one .und) :: .v (.one .und) :: .v (.one .und) :: .v (.one .und) :: .v (.one .und) :: .v (.one .und) :: .v (.one .und) :: .v (.one .und) :: .v (.one .und) :: .v (.one .und) :: .v (.one .und) :: .v (.one .und) :: .v (.one .und) :: .v (.one .und) :: .v (.one .und) :: .v (.one .und) :: .v (.one .und) :: .v (.one .und) :: .v (.one .und) :: .v (.one .und) :: .v (.one .und) :: .v (.one .und) :: .v (.one .und) :: .v (.one .und) :: .v (.one .und) :: .v (.one .und) :: .v (.one .und) :: .v (.one .und) :: [], [.cells 24 [.int .i64 v3, .int .i64 v4], .row 3 (.ints .i64 v5), .row 3 (.ints .i64 v6)]⟩
def x72_1_0_k0  (y0 : Int) (y1 : Int) (y2 : Int) (y3 : Int) (y4 : List Int) (y5 : List Int) : St := ⟨.v (.one .und) :: .v (.one (.ptr 0 0)) :: .v (.one .und) :: .v (.one (.row 1)) :: .v (.one (.row 2)) :: .v (.one (.int .i64 y0)) :: .v (.one (.int .i64 y1)) :: .v (.one .und) :: .v (.one .und) :: .v (.one .und) :: .v (.one .und) :: .v (.one .und) :: .v (.one .und) :: .v (.one .und) :: .v (.one .und) :: .v (.one .und) :: .v (.one .und) :: .v (.one .und) :: .v (.one .und) :: .v (.one .und) :: .v (.one .und) :: .v (.one .und) :: .v (.one .und) :: .v (.one .und) :: .v (.one .und) :: .v (.one .und) :: .v (.one .und) :: .v (.one .und) :: .v (.one .und) :: .v (.one .und) :: .v (.one .und) :: .v (.one .und) :: .v (.one .und) :: .v (.one .und) :: .v (.one .und) :: .v (.one .und) :: .v (.one .und) :: .v (.one .und) :: .v (.one .und) :: .v (.one .und) :: .v (.one .und) :: .v (.one .und) :: .v (.one .und) :: .v (.one .und) :: .v (.one .und) :: .v (.one .und) :: .v (.one .und) :: .v (.one .und) :: .v (.one .und) :: .v (.one .und) :: .v (.one .und) :: .v (.one .und) :: .v (.one .und) :: .v (.one .und) :: .v (.one .und) :: .v (.one .und) :: .v (.one .und) :: .v (.one .und) :: .v (.one .und) :: .v (.one .und) :: .v (.one .und) :: .v (.one .und) :: .v (.one .und) :: .v (.one .und) :: .v (.one .und) :: .v (.one .und) :: .v (.one .und) :: .v (.one .und) :: .v (.one .und) :: .v (.one .und) :: .v (.one .und) :: .v (.one .und) :: .v (.one .und) :: .v (.one .und) :: [], [.cells 24 [.int .i64 y2, .int .i64 y3], .row 3 (.ints .i64 y4), .row 3 (.ints .i64 y5)]⟩
theorem fl72_0_0 (s : St) : refSt (h72_0_0 0 0 0 [] []) s = h72_0_0 (intS (oneA (vT (nx tund s.tmps 5)))) (intS (nx .und (cellsB (nx .dead s.blks 0)) 0)) (intS (nx .und (cellsB (nx .dead s.blks 0)) 1)) (rInts (rowB_ (nx .dead s.blks 1))) (rInts (rowB_ (nx .dead s.blks 2))) := by kernel_rfl
def VLS72_0 {β : Type} (N : Nat) (q_spec_ShapleyNumbers_l0 : Nat → Int → Int → Int → List Int → List Int → (List Int → Option β) → Option β) : LSpec β := fun s K => cond (shpSt (h72_0_0 0 0 0 [] []) s) ((fun (v0 : Int) (v1 : Int) (v2 : Int) (v3 : List Int) (v4 : List Int) => q_spec_ShapleyNumbers_l0  N v0 v1 v2 v3 v4 (fun y0 => K (.exit 0) (x72_0_0_k0  y0))) (intS (oneA (vT (nx tund s.tmps 5)))) (intS (nx .und (cellsB (nx .dead s.blks 0)) 0)) (intS (nx .und (cellsB (nx .dead s.blks 0)) 1)) (rInts (rowB_ (nx .dead s.blks 1))) (rInts (rowB_ (nx .dead s.blks 2)))) (none)
def LS72_0 {β : Type} (N : Nat) : LSpec β := VLS72_0 N (spec_ShapleyNumbers_l0 N)
theorem fl72_1_0 (s : St) : refSt (h72_1_0 0 0 0 0 0 [] []) s = h72_1_0 (intS (oneA (vT (nx tund s.tmps 5)))) (intS (oneA (vT (nx tund s.tmps 6)))) (intS (oneA (vT (nx tund s.tmps 7)))) (intS (nx .und (cellsB (nx .dead s.blks 0)) 0)) (intS (nx .und (cellsB (nx .dead s.blks 0)) 1)) (rInts (rowB_ (nx .dead s.blks 1))) (rInts (rowB_ (nx .dead s.blks 2))) := by kernel_rfl
def VLS72_2 {β : Type} (N : Nat) (q_spec_ShapleyNumbers_l2 : Nat → Int → Int → Int → Int → Int → List Int → List Int → (Int → Int → Int → Int → List Int → List Int → Option β) → Option β) : LSpec β := fun s K => cond (shpSt (h72_1_0 0 0 0 0 0 [] []) s) ((fun (v0 : Int) (v1 : Int) (v2 : Int) (v3 : Int) (v4 : Int) (v5 : List Int) (v6 : List Int) => q_spec_ShapleyNumbers_l2  N v0 v1 v2 v3 v4 v5 v6 (fun y0 y1 y2 y3 y4 y5 => K (.exit 2) (x72_1_0_k0  y0 y1 y2 y3 y4 y5))) (intS (oneA (vT (nx tund s.tmps 5)))) (intS (oneA (vT (nx tund s.tmps 6)))) (intS (oneA (vT (nx tund s.tmps 7)))) (intS (nx .und (cellsB (nx .dead s.blks 0)) 0)) (intS (nx .und (cellsB (nx .dead s.blks 0)) 1)) (rInts (rowB_ (nx .dead s.blks 1))) (rInts (rowB_ (nx .dead s.blks 2)))) (none)
def LS72_2 {β : Type} (N : Nat) : LSpec β := VLS72_2 N (spec_ShapleyNumbers_l2 N)
def VE72 {β : Type} (N : Nat) (q_spec_IsSimpleGame : (a0 : Int) → (a1 : Int) → (k : Bool → Option β) → Option β) (q_spec_l2Count : (a0 : Int) → (k : Int → Option β) → Option β) (q_spec_ShapleyNumbers_l0 : Nat → Int → Int → Int → List Int → List Int → (List Int → Option β) → Option β) (q_spec_ShapleyNumbers_l2 : Nat → Int → Int → Int → Int → Int → List Int → List Int → (Int → Int → Int → Int → List Int → List Int → Option β) → Option β) : Env β := ⟨[(69, VS69 N q_spec_IsSimpleGame), (124, VS124 N q_spec_l2Count)], [], [(0, VLS72_0 N q_spec_ShapleyNumbers_l0), (2, VLS72_2 N q_spec_ShapleyNumbers_l2)], [], ⟨[], [], []⟩⟩
def E72 {β : Type} (N : Nat) : Env β := VE72 N (spec_IsSimpleGame N) (spec_l2Count N) (spec_ShapleyNumbers_l0 N) (spec_ShapleyNumbers_l2 N)
def BV_spec_ShapleyNumbers_l0b {β : Type} (N : Nat) (q_spec_ShapleyNumbers_l2 : Nat → Int → Int → Int → Int → Int → List Int → List Int → (Int → Int → Int → Int → List Int → List Int → Option β) → Option β)  (v0 : Int) (v1 : Int) (v2 : Int) (v3 : List Int) (v4 : List Int) (rec_ : Int → Int → Int → List Int → List Int → Option β) (k0 : List Int → Option β) : Option β :=
(cond ((decide (v0 < v1)))
(q_spec_ShapleyNumbers_l2  N v0 0 0 v1 v2 v3 v4 (fun e5_0 e5_1 e5_2 e5_3 e5_4 e5_5 =>
(gd ((decide ((e5_4.length + ((([] : List Int) ++ [e5_1])).length) * 8 ≤ 140737488355328)))
(rec_ ((w64 (e5_0 + 1))) e5_2 e5_3 ((e5_4 ++ (([] : List Int) ++ [e5_1]))) e5_5))))
(k0 v3))
theorem t_spec_ShapleyNumbers_l0b {β : Type} (N : Nat)  (v0 : Int) (v1 : Int) (v2 : Int) (v3 : List Int) (v4 : List Int) (rec_ : Int → Int → Int → List Int → List Int → Option β) (k0 : List Int → Option β) : spec_ShapleyNumbers_l0b N v0 v1 v2 v3 v4 rec_ k0 = BV_spec_ShapleyNumbers_l0b N (spec_ShapleyNumbers_l2 N) v0 v1 v2 v3 v4 rec_ k0 := by
  unfold spec_ShapleyNumbers_l0b BV_spec_ShapleyNumbers_l0b
  rfl
theorem vst72_0_0 {β : Type} (N : Nat) (q_spec_IsSimpleGame : (a0 : Int) → (a1 : Int) → (k : Bool → Option β) → Option β) (q_spec_l2Count : (a0 : Int) → (k : Int → Option β) → Option β) (q_spec_ShapleyNumbers_l0 : Nat → Int → Int → Int → List Int → List Int → (List Int → Option β) → Option β) (q_spec_ShapleyNumbers_l2 : Nat → Int → Int → Int → Int → Int → List Int → List Int → (Int → Int → Int → Int → List Int → List Int → Option β) → Option β)  (v0 : Int) (v1 : Int) (v2 : Int) (v3 : List Int) (v4 : List Int) (rec_ : St → Option β) (K : Exit → St → Option β) :
    ev lay (VE72 N q_spec_IsSimpleGame q_spec_l2Count q_spec_ShapleyNumbers_l0 q_spec_ShapleyNumbers_l2) (retMask Tryd.f72) (lp Tryd.f72 0).body (lp Tryd.f72 0).ex ((lp Tryd.f72 0).lv (retMask Tryd.f72)) (h72_0_0  v0 v1 v2 v3 v4) (nextR (fun s' => rec_ (s'.tidy ((lp Tryd.f72 0).lv (retMask Tryd.f72)))) K) = BV_spec_ShapleyNumbers_l0b N q_spec_ShapleyNumbers_l2  v0 v1 v2 v3 v4 (fun v0 v1 v2 v3 v4 => rec_ (h72_0_0  v0 v1 v2 v3 v4)) (fun y0 => K (.exit 0) (x72_0_0_k0  y0)) := by kernel_rfl
theorem st72_0_0 {β : Type} (N : Nat)  (v0 : Int) (v1 : Int) (v2 : Int) (v3 : List Int) (v4 : List Int) (rec_ : St → Option β) (K : Exit → St → Option β) :
    ev lay (E72 N) (retMask Tryd.f72) (lp Tryd.f72 0).body (lp Tryd.f72 0).ex ((lp Tryd.f72 0).lv (retMask Tryd.f72)) (h72_0_0  v0 v1 v2 v3 v4) (nextR (fun s' => rec_ (s'.tidy ((lp Tryd.f72 0).lv (retMask Tryd.f72)))) K) = spec_ShapleyNumbers_l0b N  v0 v1 v2 v3 v4 (fun v0 v1 v2 v3 v4 => rec_ (h72_0_0  v0 v1 v2 v3 v4)) (fun y0 => K (.exit 0) (x72_0_0_k0  y0)) := (vst72_0_0 N (spec_IsSimpleGame N) (spec_l2Count N) (spec_ShapleyNumbers_l0 N) (spec_ShapleyNumbers_l2 N) v0 v1 v2 v3 v4 rec_ K).trans (t_spec_ShapleyNumbers_l0b N  v0 v1 v2 v3 v4 (fun v0 v1 v2 v3 v4 => rec_ (h72_0_0  v0 v1 v2 v3 v4)) (fun y0 => K (.exit 0) (x72_0_0_k0  y0))).symm
theorem ro72_0_0 {β : Type} (N : Nat)  (K : Exit → St → Option β) : ∀ (F : Nat) (v0 : Int) (v1 : Int) (v2 : Int) (v3 : List Int) (v4 : List Int), (lp Tryd.f72 0).rounds lay (E72 N) (retMask Tryd.f72) F (h72_0_0  v0 v1 v2 v3 v4) K = spec_ShapleyNumbers_l0 N  F v0 v1 v2 v3 v4 (fun y0 => K (.exit 0) (x72_0_0_k0  y0)) := by
  intro F
  induction F with
  | zero => intros; rfl
  | succ F ih =>
    intros
    rw [rounds_next]
    refine (st72_0_0 N  _ _ _ _ _ (fun s => (lp Tryd.f72 0).rounds lay (E72 N) (retMask Tryd.f72) F s K) K).trans ?_
    simp only [ih]
    rfl
theorem lk72_0 {β : Type} (N : Nat) : lookL (E72 (β := β) N).loops (lp Tryd.f72 0).id = LS72_0 N := by kernel_rfl
theorem rk72_0 {β : Type} (N : Nat) : RoundsOK lay (E72 (β := β) N) (retMask Tryd.f72) (lp Tryd.f72 0) := by
  intro s K r h
  rw [lk72_0] at h
  unfold LS72_0 VLS72_0 at h
  cases hb : shpSt (h72_0_0 0 0 0 [] []) s with
  | true =>
    rw [hb, cond_true] at h
    exact ⟨N, by rw [← shpSt_ref hb, fl72_0_0 s]; exact (ro72_0_0 N  K N (intS (oneA (vT (nx tund s.tmps 5)))) (intS (nx .und (cellsB (nx .dead s.blks 0)) 0)) (intS (nx .und (cellsB (nx .dead s.blks 0)) 1)) (rInts (rowB_ (nx .dead s.blks 1))) (rInts (rowB_ (nx .dead s.blks 2)))).trans h⟩
  | false =>
  rw [hb, cond_false] at h
  clear hb
  cases h
def BV_spec_ShapleyNumbers_l2b {β : Type} (N : Nat) (q_spec_l2Count : (a0 : Int) → (k : Int → Option β) → Option β)  (v0 : Int) (v1 : Int) (v2 : Int) (v3 : Int) (v4 : Int) (v5 : List Int) (v6 : List Int) (rec_ : Int → Int → Int → Int → Int → List Int → List Int → Option β) (k0 : Int → Int → Int → Int → List Int → List Int → Option β) : Option β :=
(gd ((decide (0 ≤ v3)))
((cond ((decide (v2 < (shlI .i64 1 v3))))
((gd ((decide (0 ≤ v0)))
((cond (((bits .and .i64 (shrI .i64 v2 v0) 1) == 0))
((gd ((decide (0 ≤ v2)))
((cond (((bits .and .i64 (shrI .i64 v4 v2) 1) == 0))
((gd ((decide (0 ≤ v0)))
((gd ((decide (0 ≤ (bits .or .i64 v2 (shlI .i64 1 v0)))))
((cond (((bits .and .i64 (shrI .i64 v4 (bits .or .i64 v2 (shlI .i64 1 v0))) 1) == 1))
(q_spec_l2Count v2 fun r4 =>
(gd ((decide (0 ≤ r4)))
((gd ((decide (r4 < (v6.length : Int))))
((gd ((decide (0 ≤ (w64 ((w64 (v3 - 1)) - r4)))))
((gd ((decide ((w64 ((w64 (v3 - 1)) - r4)) < (v6.length : Int))))
(rec_ v0 ((w64 (v1 + (w64 ((rd 0 v6 r4) * (rd 0 v6 (w64 ((w64 (v3 - 1)) - r4)))))))) ((w64 (v2 + 1))) v3 v4 v5 v6)))))))))
(rec_ v0 v1 ((w64 (v2 + 1))) v3 v4 v5 v6)))))))
(rec_ v0 v1 ((w64 (v2 + 1))) v3 v4 v5 v6)))))
(rec_ v0 v1 ((w64 (v2 + 1))) v3 v4 v5 v6)))))
(k0 v0 v1 v3 v4 v5 v6))))
theorem t_spec_ShapleyNumbers_l2b {β : Type} (N : Nat)  (v0 : Int) (v1 : Int) (v2 : Int) (v3 : Int) (v4 : Int) (v5 : List Int) (v6 : List Int) (rec_ : Int → Int → Int → Int → Int → List Int → List Int → Option β) (k0 : Int → Int → Int → Int → List Int → List Int → Option β) : spec_ShapleyNumbers_l2b N v0 v1 v2 v3 v4 v5 v6 rec_ k0 = BV_spec_ShapleyNumbers_l2b N (spec_l2Count N) v0 v1 v2 v3 v4 v5 v6 rec_ k0 := by
  unfold spec_ShapleyNumbers_l2b BV_spec_ShapleyNumbers_l2b
  rfl
theorem vst72_1_0 {β : Type} (N : Nat) (q_spec_IsSimpleGame : (a0 : Int) → (a1 : Int) → (k : Bool → Option β) → Option β) (q_spec_l2Count : (a0 : Int) → (k : Int → Option β) → Option β) (q_spec_ShapleyNumbers_l0 : Nat → Int → Int → Int → List Int → List Int → (List Int → Option β) → Option β) (q_spec_ShapleyNumbers_l2 : Nat → Int → Int → Int → Int → Int → List Int → List Int → (Int → Int → Int → Int → List Int → List Int → Option β) → Option β)  (v0 : Int) (v1 : Int) (v2 : Int) (v3 : Int) (v4 : Int) (v5 : List Int) (v6 : List Int) (rec_ : St → Option β) (K : Exit → St → Option β) :
    ev lay (VE72 N q_spec_IsSimpleGame q_spec_l2Count q_spec_ShapleyNumbers_l0 q_spec_ShapleyNumbers_l2) (retMask Tryd.f72) (lp Tryd.f72 1).body (lp Tryd.f72 1).ex ((lp Tryd.f72 1).lv (retMask Tryd.f72)) (h72_1_0  v0 v1 v2 v3 v4 v5 v6) (nextR (fun s' => rec_ (s'.tidy ((lp Tryd.f72 1).lv (retMask Tryd.f72)))) K) = BV_spec_ShapleyNumbers_l2b N q_spec_l2Count  v0 v1 v2 v3 v4 v5 v6 (fun v0 v1 v2 v3 v4 v5 v6 => rec_ (h72_1_0  v0 v1 v2 v3 v4 v5 v6)) (fun y0 y1 y2 y3 y4 y5 => K (.exit 2) (x72_1_0_k0  y0 y1 y2 y3 y4 y5)) := by kernel_rfl
theorem st72_1_0 {β : Type} (N : Nat)  (v0 : Int) (v1 : Int) (v2 : Int) (v3 : Int) (v4 : Int) (v5 : List Int) (v6 : List Int) (rec_ : St → Option β) (K : Exit → St → Option β) :
    ev lay (E72 N) (retMask Tryd.f72) (lp Tryd.f72 1).body (lp Tryd.f72 1).ex ((lp Tryd.f72 1).lv (retMask Tryd.f72)) (h72_1_0  v0 v1 v2 v3 v4 v5 v6) (nextR (fun s' => rec_ (s'.tidy ((lp Tryd.f72 1).lv (retMask Tryd.f72)))) K) = spec_ShapleyNumbers_l2b N  v0 v1 v2 v3 v4 v5 v6 (fun v0 v1 v2 v3 v4 v5 v6 => rec_ (h72_1_0  v0 v1 v2 v3 v4 v5 v6)) (fun y0 y1 y2 y3 y4 y5 => K (.exit 2) (x72_1_0_k0  y0 y1 y2 y3 y4 y5)) := (vst72_1_0 N (spec_IsSimpleGame N) (spec_l2Count N) (spec_ShapleyNumbers_l0 N) (spec_ShapleyNumbers_l2 N) v0 v1 v2 v3 v4 v5 v6 rec_ K).trans (t_spec_ShapleyNumbers_l2b N  v0 v1 v2 v3 v4 v5 v6 (fun v0 v1 v2 v3 v4 v5 v6 => rec_ (h72_1_0  v0 v1 v2 v3 v4 v5 v6)) (fun y0 y1 y2 y3 y4 y5 => K (.exit 2) (x72_1_0_k0  y0 y1 y2 y3 y4 y5))).symm
theorem ro72_1_0 {β : Type} (N : Nat)  (K : Exit → St → Option β) : ∀ (F : Nat) (v0 : Int) (v1 : Int) (v2 : Int) (v3 : Int) (v4 : Int) (v5 : List Int) (v6 : List Int), (lp Tryd.f72 1).rounds lay (E72 N) (retMask Tryd.f72) F (h72_1_0  v0 v1 v2 v3 v4 v5 v6) K = spec_ShapleyNumbers_l2 N  F v0 v1 v2 v3 v4 v5 v6 (fun y0 y1 y2 y3 y4 y5 => K (.exit 2) (x72_1_0_k0  y0 y1 y2 y3 y4 y5)) := by
  intro F
  induction F with
  | zero => intros; rfl
  | succ F ih =>
    intros
    rw [rounds_next]
    refine (st72_1_0 N  _ _ _ _ _ _ _ (fun s => (lp Tryd.f72 1).rounds lay (E72 N) (retMask Tryd.f72) F s K) K).trans ?_
    simp only [ih]
    rfl
theorem lk72_2 {β : Type} (N : Nat) : lookL (E72 (β := β) N).loops (lp Tryd.f72 1).id = LS72_2 N := by kernel_rfl
theorem rk72_2 {β : Type} (N : Nat) : RoundsOK lay (E72 (β := β) N) (retMask Tryd.f72) (lp Tryd.f72 1) := by
  intro s K r h
  rw [lk72_2] at h
  unfold LS72_2 VLS72_2 at h
  cases hb : shpSt (h72_1_0 0 0 0 0 0 [] []) s with
  | true =>
    rw [hb, cond_true] at h
    exact ⟨N, by rw [← shpSt_ref hb, fl72_1_0 s]; exact (ro72_1_0 N  K N (intS (oneA (vT (nx tund s.tmps 5)))) (intS (oneA (vT (nx tund s.tmps 6)))) (intS (oneA (vT (nx tund s.tmps 7)))) (intS (nx .und (cellsB (nx .dead s.blks 0)) 0)) (intS (nx .und (cellsB (nx .dead s.blks 0)) 1)) (rInts (rowB_ (nx .dead s.blks 1))) (rInts (rowB_ (nx .dead s.blks 2)))).trans h⟩
  | false =>
  rw [hb, cond_false] at h
  clear hb
  cases h
def BV_spec_ShapleyNumbers {β : Type} (N : Nat) (q_spec_IsSimpleGame : (a0 : Int) → (a1 : Int) → (k : Bool → Option β) → Option β) (q_spec_ShapleyNumbers_l0 : Nat → Int → Int → Int → List Int → List Int → (List Int → Option β) → Option β) (a0 : Int) (a1 : Int) (k : List Int → Option β) : Option β :=
q_spec_IsSimpleGame a0 a1 fun r3 =>
(cond (!r3)
(k (([] : List Int)))
(q_spec_ShapleyNumbers_l0  N 0 a0 a1 (([] : List Int)) (((((((([] : List Int) ++ [1]) ++ [1]) ++ [2]) ++ [6]) ++ [24]) ++ [120])) (fun e6_0 =>
k e6_0)))
theorem t_spec_ShapleyNumbers {β : Type} (N : Nat) (a0 : Int) (a1 : Int) (k : List Int → Option β) : spec_ShapleyNumbers N a0 a1 k = BV_spec_ShapleyNumbers N (spec_IsSimpleGame N) (spec_ShapleyNumbers_l0 N) a0 a1 k := by
  unfold spec_ShapleyNumbers BV_spec_ShapleyNumbers
  rfl
theorem ve72_0 {β : Type} (N : Nat) (q_spec_IsSimpleGame : (a0 : Int) → (a1 : Int) → (k : Bool → Option β) → Option β) (q_spec_l2Count : (a0 : Int) → (k : Int → Option β) → Option β) (q_spec_ShapleyNumbers_l0 : Nat → Int → Int → Int → List Int → List Int → (List Int → Option β) → Option β) (q_spec_ShapleyNumbers_l2 : Nat → Int → Int → Int → Int → Int → List Int → List Int → (Int → Int → Int → Int → List Int → List Int → Option β) → Option β)  (a0 : Int) (a1 : Int) (K : TV → Option β) : evFn lay (VE72 N q_spec_IsSimpleGame q_spec_l2Count q_spec_ShapleyNumbers_l0 q_spec_ShapleyNumbers_l2) Tryd.f72 [.v (.agg [.int .i64 a0, .int .i64 a1])] K = BV_spec_ShapleyNumbers N q_spec_IsSimpleGame q_spec_ShapleyNumbers_l0 a0 a1 (fun z2 => K (.v (.one (.sl 3 (.ints .i64 z2))))) := by kernel_rfl
theorem e72_0 {β : Type} (N : Nat)  (a0 : Int) (a1 : Int) (K : TV → Option β) : evFn lay (E72 N) Tryd.f72 [.v (.agg [.int .i64 a0, .int .i64 a1])] K = spec_ShapleyNumbers N a0 a1 (fun z2 => K (.v (.one (.sl 3 (.ints .i64 z2))))) := (ve72_0 N (spec_IsSimpleGame N) (spec_l2Count N) (spec_ShapleyNumbers_l0 N) (spec_ShapleyNumbers_l2 N) a0 a1 K).trans (t_spec_ShapleyNumbers N a0 a1 (fun z2 => K (.v (.one (.sl 3 (.ints .i64 z2)))))).symm
theorem o72 {β : Type} (N : Nat) : SpecOK (β := β) inv Tryd.prog 72 (S72 N) := by
  refine spec_of lay_ok mixed (E := E72 N) (specs_loops (specs_cons (o69 N) (specs_cons (o124 N) specs_nil))) muts_nil gs_nil Tryd.func72 (by kernel_rfl) 2 (by kernel_rfl) ⟨⟨trivial, rk72_0 N⟩, rk72_2 N⟩ fun args K r h => ?_
  unfold S72 VS72 at h
  split at h
  · exact (e72_0 N _ _ _).trans h
  · cases h
def VS134 {β : Type} (N : Nat) (q_spec_l2Variable : (a0 : Int) → (a1 : Int) → (k : Int → Option β) → Option β) : Rv.Spec β := fun args K => match args with
  | [.v (.one (.int .i64 a0)), .v (.one (.int .i64 a1))] => q_spec_l2Variable a0 a1 (fun z2 => K (.v (.one (.int .i64 z2))))
  | _ => none
def S134 {β : Type} (N : Nat) : Rv.Spec β := VS134 N (spec_l2Variable N)
def h134_0_0  (v0 : Int) (v1 : Int) (v2 : Int) (v3 : Int) : St := ⟨.v (.one (.int .i64 v0)) :: .v (.one (.int .i64 v1)) :: .v (.one .und) :: .v (.one .und) :: .v (.one .und) :: .v (.one (.int .i64 v2)) :: .v (.one (.int .i64 v3)) :: .v (.one .und) :: .v (.one .und) :: .v (.one .und) :: .v (.one .und) :: .v (.one .und) :: .v (.one .und) :: .v (.one .und) :: .v (.one .und) :: .v (.one .und) :: .v (.one .und) :: .v (.one .und) :: .v (.one .und) :: .v (.one .und) :: .v (.one .und) :: .v (.one .und) :: .v (.one .und) :: [], []⟩
def x134_0_0_k0  (y0 : Int) : St := ⟨.v (.one .und) :: .v (.one .und) :: .v (.one .und) :: .v (.one .und) :: .v (.one .und) :: .v (.one (.int .i64 y0)) :: .v (.one .und) :: .v (.one .und) :: .v (.one .und) :: .v (.one .und) :: .v (.one .und) :: .v (.one .und) :: .v (.one .und) :: .v (.one .und) :: .v (.one .und) :: .v (.one .und) :: .v (.one .und) :: .v (.one .und) :: .v (.one .und) :: .v (.one .und) :: .v (.one .und) :: .v (.one .und) :: .v (.one .und) :: [], []⟩
theorem fl134_0_0 (s : St) : refSt (h134_0_0 0 0 0 0) s = h134_0_0 (intS (oneA (vT (nx tund s.tmps 0)))) (intS (oneA (vT (nx tund s.tmps 1)))) (intS (oneA (vT (nx tund s.tmps 5)))) (intS (oneA (vT (nx tund s.tmps 6)))) := by kernel_rfl
def VLS134_0 {β : Type} (N : Nat) (q_spec_l2Variable_l0 : Nat → Int → Int → Int → Int → (Int → Option β) → Option β) : LSpec β := fun s K => cond (shpSt (h134_0_0 0 0 0 0) s) ((fun (v0 : Int) (v1 : Int) (v2 : Int) (v3 : Int) => q_spec_l2Variable_l0  N v0 v1 v2 v3 (fun y0 => K (.exit 0) (x134_0_0_k0  y0))) (intS (oneA (vT (nx tund s.tmps 0)))) (intS (oneA (vT (nx tund s.tmps 1)))) (intS (oneA (vT (nx tund s.tmps 5)))) (intS (oneA (vT (nx tund s.tmps 6))))) (none)
def LS134_0 {β : Type} (N : Nat) : LSpec β := VLS134_0 N (spec_l2Variable_l0 N)
def VE134 {β : Type} (N : Nat) (q_spec_l2Variable_l0 : Nat → Int → Int → Int → Int → (Int → Option β) → Option β) : Env β := ⟨[], [], [(0, VLS134_0 N q_spec_l2Variable_l0)], [], ⟨[], [], []⟩⟩
def E134 {β : Type} (N : Nat) : Env β := VE134 N (spec_l2Variable_l0 N)
def BV_spec_l2Variable_l0b {β : Type} (N : Nat)  (v0 : Int) (v1 : Int) (v2 : Int) (v3 : Int) (rec_ : Int → Int → Int → Int → Option β) (k0 : Int → Option β) : Option β :=
(gd ((decide (0 ≤ v0)))
((cond ((decide (v3 < (shlI .i64 1 v0))))
((gd ((decide (0 ≤ v1)))
((cond (((bits .and .i64 (shrI .i64 v3 v1) 1) == 1))
((gd ((decide (0 ≤ v3)))
(rec_ v0 v1 ((bits .or .i64 v2 (shlI .i64 1 v3))) ((w64 (v3 + 1))))))
(rec_ v0 v1 v2 ((w64 (v3 + 1))))))))
(k0 v2))))
theorem t_spec_l2Variable_l0b {β : Type} (N : Nat)  (v0 : Int) (v1 : Int) (v2 : Int) (v3 : Int) (rec_ : Int → Int → Int → Int → Option β) (k0 : Int → Option β) : spec_l2Variable_l0b N v0 v1 v2 v3 rec_ k0 = BV_spec_l2Variable_l0b N v0 v1 v2 v3 rec_ k0 := by
  unfold spec_l2Variable_l0b BV_spec_l2Variable_l0b
  rfl
theorem vst134_0_0 {β : Type} (N : Nat) (q_spec_l2Variable_l0 : Nat → Int → Int → Int → Int → (Int → Option β) → Option β)  (v0 : Int) (v1 : Int) (v2 : Int) (v3 : Int) (rec_ : St → Option β) (K : Exit → St → Option β) :
    ev lay (VE134 N q_spec_l2Variable_l0) (retMask Tryd.f134) (lp Tryd.f134 0).body (lp Tryd.f134 0).ex ((lp Tryd.f134 0).lv (retMask Tryd.f134)) (h134_0_0  v0 v1 v2 v3) (nextR (fun s' => rec_ (s'.tidy ((lp Tryd.f134 0).lv (retMask Tryd.f134)))) K) = BV_spec_l2Variable_l0b N  v0 v1 v2 v3 (fun v0 v1 v2 v3 => rec_ (h134_0_0  v0 v1 v2 v3)) (fun y0 => K (.exit 0) (x134_0_0_k0  y0)) := by kernel_rfl
theorem st134_0_0 {β : Type} (N : Nat)  (v0 : Int) (v1 : Int) (v2 : Int) (v3 : Int) (rec_ : St → Option β) (K : Exit → St → Option β) :
    ev lay (E134 N) (retMask Tryd.f134) (lp Tryd.f134 0).body (lp Tryd.f134 0).ex ((lp Tryd.f134 0).lv (retMask Tryd.f134)) (h134_0_0  v0 v1 v2 v3) (nextR (fun s' => rec_ (s'.tidy ((lp Tryd.f134 0).lv (retMask Tryd.f134)))) K) = spec_l2Variable_l0b N  v0 v1 v2 v3 (fun v0 v1 v2 v3 => rec_ (h134_0_0  v0 v1 v2 v3)) (fun y0 => K (.exit 0) (x134_0_0_k0  y0)) := (vst134_0_0 N (spec_l2Variable_l0 N) v0 v1 v2 v3 rec_ K).trans (t_spec_l2Variable_l0b N  v0 v1 v2 v3 (fun v0 v1 v2 v3 => rec_ (h134_0_0  v0 v1 v2 v3)) (fun y0 => K (.exit 0) (x134_0_0_k0  y0))).symm
theorem ro134_0_0 {β : Type} (N : Nat)  (K : Exit → St → Option β) : ∀ (F : Nat) (v0 : Int) (v1 : Int) (v2 : Int) (v3 : Int), (lp Tryd.f134 0).rounds lay (E134 N) (retMask Tryd.f134) F (h134_0_0  v0 v1 v2 v3) K = spec_l2Variable_l0 N  F v0 v1 v2 v3 (fun y0 => K (.exit 0) (x134_0_0_k0  y0)) := by
  intro F
  induction F with
  | zero => intros; rfl
  | succ F ih =>
    intros
    rw [rounds_next]
    refine (st134_0_0 N  _ _ _ _ (fun s => (lp Tryd.f134 0).rounds lay (E134 N) (retMask Tryd.f134) F s K) K).trans ?_
    simp only [ih]
    rfl
theorem lk134_0 {β : Type} (N : Nat) : lookL (E134 (β := β) N).loops (lp Tryd.f134 0).id = LS134_0 N := by kernel_rfl
theorem rk134_0 {β : Type} (N : Nat) : RoundsOK lay (E134 (β := β) N) (retMask Tryd.f134) (lp Tryd.f134 0) := by
  intro s K r h
  rw [lk134_0] at h
  unfold LS134_0 VLS134_0 at h
  cases hb : shpSt (h134_0_0 0 0 0 0) s with
  | true =>
    rw [hb, cond_true] at h
    exact ⟨N, by rw [← shpSt_ref hb, fl134_0_0 s]; exact (ro134_0_0 N  K N (intS (oneA (vT (nx tund s.tmps 0)))) (intS (oneA (vT (nx tund s.tmps 1)))) (intS (oneA (vT (nx tund s.tmps 5)))) (intS (oneA (vT (nx tund s.tmps 6))))).trans h⟩
  | false =>
  rw [hb, cond_false] at h
  clear hb
  cases h
def BV_spec_l2Variable {β : Type} (N : Nat) (q_spec_l2Variable_l0 : Nat → Int → Int → Int → Int → (Int → Option β) → Option β) (a0 : Int) (a1 : Int) (k : Int → Option β) : Option β :=
q_spec_l2Variable_l0  N a0 a1 0 0 (fun e3_0 =>
k e3_0)
theorem t_spec_l2Variable {β : Type} (N : Nat) (a0 : Int) (a1 : Int) (k : Int → Option β) : spec_l2Variable N a0 a1 k = BV_spec_l2Variable N (spec_l2Variable_l0 N) a0 a1 k := by
  unfold spec_l2Variable BV_spec_l2Variable
  rfl
theorem ve134_0 {β : Type} (N : Nat) (q_spec_l2Variable_l0 : Nat → Int → Int → Int → Int → (Int → Option β) → Option β)  (a0 : Int) (a1 : Int) (K : TV → Option β) : evFn lay (VE134 N q_spec_l2Variable_l0) Tryd.f134 [.v (.one (.int .i64 a0)), .v (.one (.int .i64 a1))] K = BV_spec_l2Variable N q_spec_l2Variable_l0 a0 a1 (fun z2 => K (.v (.one (.int .i64 z2)))) := by kernel_rfl
theorem e134_0 {β : Type} (N : Nat)  (a0 : Int) (a1 : Int) (K : TV → Option β) : evFn lay (E134 N) Tryd.f134 [.v (.one (.int .i64 a0)), .v (.one (.int .i64 a1))] K = spec_l2Variable N a0 a1 (fun z2 => K (.v (.one (.int .i64 z2)))) := (ve134_0 N (spec_l2Variable_l0 N) a0 a1 K).trans (t_spec_l2Variable N a0 a1 (fun z2 => K (.v (.one (.int .i64 z2))))).symm
theorem o134 {β : Type} (N : Nat) : SpecOK (β := β) inv Tryd.prog 134 (S134 N) := by
  refine spec_of lay_ok mixed (E := E134 N) (specs_loops specs_nil) muts_nil gs_nil Tryd.func134 (by kernel_rfl) 1 (by kernel_rfl) ⟨trivial, rk134_0 N⟩ fun args K r h => ?_
  unfold S134 VS134 at h
  split at h
  · exact (e134_0 N _ _ _).trans h
  · cases h
def VS73 {β : Type} (N : Nat) (q_spec_VetoPlayers : (a0 : Int) → (a1 : Int) → (k : List Int → Option β) → Option β) : Rv.Spec β := fun args K => match args with
  | [.v (.agg [.int .i64 a0, .int .i64 a1])] => q_spec_VetoPlayers a0 a1 (fun z2 => K (.v (.one (.sl 3 (.ints .i64 z2)))))
  | _ => none
def S73 {β : Type} (N : Nat) : Rv.Spec β := VS73 N (spec_VetoPlayers N)
def h73_0_0  (v0 : Int) (v1 : Int) (v2 : Int) (v3 : List Int) : St := ⟨.v (.one .und) :: .v (.one (.ptr 0 0)) :: .v (.one .und) :: .v (.one (.row 1)) :: .v (.one (.int .i64 v0)) :: .v (.one .und) :: .v (.one .und) :: .v (.one .und) :: .v (.one .und) :: .v (.one .und) :: .v (.one .und) :: .v (.one .und) :: .v (.one .und) :: .v (.one .und) :: .v (.one .und) :: .v (.one .und) :: .v (.one .und) :: .v (.one .und) :: .v (.one .und) :: .v (.one .und) :: .v (.one .und) :: .v (.one .und) :: .v (.one .und) :: .v (.one .und) :: .v (.one .und) :: .v (.one .und) :: .v (.one .und) :: .v (.one .und) :: .v (.one .und) :: .v (.one .und) :: .v (.one .und) :: [], [.cells 24 [.int .i64 v1, .int .i64 v2], .row 3 (.ints .i64 v3)]⟩
def x73_0_0_k0  (y0 : List Int) : St := ⟨.v (.one .und) :: .v (.one .und) :: .v (.one .und) :: .v (.one (.row 0)) :: .v (.one .und) :: .v (.one .und) :: .v (.one .und) :: .v (.one .und) :: .v (.one .und) :: .v (.one .und) :: .v (.one .und) :: .v (.one .und) :: .v (.one .und) :: .v (.one .und) :: .v (.one .und) :: .v (.one .und) :: .v (.one .und) :: .v (.one .und) :: .v (.one .und) :: .v (.one .und) :: .v (.one .und) :: .v (.one .und) :: .v (.one .und) :: .v (.one .und) :: .v (.one .und) :: .v (.one .und) :: .v (.one .und) :: .v (.one .und) :: .v (.one .und) :: .v (.one .und) :: .v (.one .und) :: [], [.row 3 (.ints .i64 y0)]⟩
theorem fl73_0_0 (s : St) : refSt (h73_0_0 0 0 0 []) s = h73_0_0 (intS (oneA (vT (nx tund s.tmps 4)))) (intS (nx .und (cellsB (nx .dead s.blks 0)) 0)) (intS (nx .und (cellsB (nx .dead s.blks 0)) 1)) (rInts (rowB_ (nx .dead s.blks 1))) := by kernel_rfl
def VLS73_0 {β : Type} (N : Nat) (q_spec_VetoPlayers_l0 : Nat → Int → Int → Int → List Int → (List Int → Option β) → Option β) : LSpec β := fun s K => cond (shpSt (h73_0_0 0 0 0 []) s) ((fun (v0 : Int) (v1 : Int) (v2 : Int) (v3 : List Int) => q_spec_VetoPlayers_l0  N v0 v1 v2 v3 (fun y0 => K (.exit 0) (x73_0_0_k0  y0))) (intS (oneA (vT (nx tund s.tmps 4)))) (intS (nx .und (cellsB (nx .dead s.blks 0)) 0)) (intS (nx .und (cellsB (nx .dead s.blks 0)) 1)) (rInts (rowB_ (nx .dead s.blks 1)))) (none)
def LS73_0 {β : Type} (N : Nat) : LSpec β := VLS73_0 N (spec_VetoPlayers_l0 N)
def VE73 {β : Type} (N : Nat) (q_spec_IsSimpleGame : (a0 : Int) → (a1 : Int) → (k : Bool → Option β) → Option β) (q_spec_l2Variable : (a0 : Int) → (a1 : Int) → (k : Int → Option β) → Option β) (q_spec_VetoPlayers_l0 : Nat → Int → Int → Int → List Int → (List Int → Option β) → Option β) : Env β := ⟨[(69, VS69 N q_spec_IsSimpleGame), (134, VS134 N q_spec_l2Variable)], [], [(0, VLS73_0 N q_spec_VetoPlayers_l0)], [], ⟨[], [], []⟩⟩
def E73 {β : Type} (N : Nat) : Env β := VE73 N (spec_IsSimpleGame N) (spec_l2Variable N) (spec_VetoPlayers_l0 N)
def BV_spec_VetoPlayers_l0b {β : Type} (N : Nat) (q_spec_IsSimpleGame : (a0 : Int) → (a1 : Int) → (k : Bool → Option β) → Option β) (q_spec_l2Variable : (a0 : Int) → (a1 : Int) → (k : Int → Option β) → Option β)  (v0 : Int) (v1 : Int) (v2 : Int) (v3 : List Int) (rec_ : Int → Int → Int → List Int → Option β) (k0 : List Int → Option β) : Option β :=
q_spec_IsSimpleGame v1 v2 fun r3 =>
(cond r3
((cond ((decide (v0 < v1)))
(q_spec_l2Variable v1 v0 fun r4 =>
(cond (((bits .and .i64 v2 r4) == v2))
((gd ((decide ((v3.length + ((([] : List Int) ++ [v0])).length) * 8 ≤ 140737488355328)))
(rec_ ((w64 (v0 + 1))) v1 v2 ((v3 ++ (([] : List Int) ++ [v0]))))))
(rec_ ((w64 (v0 + 1))) v1 v2 v3)))
(k0 v3)))
(k0 v3))
theorem t_spec_VetoPlayers_l0b {β : Type} (N : Nat)  (v0 : Int) (v1 : Int) (v2 : Int) (v3 : List Int) (rec_ : Int → Int → Int → List Int → Option β) (k0 : List Int → Option β) : spec_VetoPlayers_l0b N v0 v1 v2 v3 rec_ k0 = BV_spec_VetoPlayers_l0b N (spec_IsSimpleGame N) (spec_l2Variable N) v0 v1 v2 v3 rec_ k0 := by
  unfold spec_VetoPlayers_l0b BV_spec_VetoPlayers_l0b
  rfl
theorem vst73_0_0 {β : Type} (N : Nat) (q_spec_IsSimpleGame : (a0 : Int) → (a1 : Int) → (k : Bool → Option β) → Option β) (q_spec_l2Variable : (a0 : Int) → (a1 : Int) → (k : Int → Option β) → Option β) (q_spec_VetoPlayers_l0 : Nat → Int → Int → Int → List Int → (List Int → Option β) → Option β)  (v0 : Int) (v1 : Int) (v2 : Int) (v3 : List Int) (rec_ : St → Option β) (K : Exit → St → Option β) :
    ev lay (VE73 N q_spec_IsSimpleGame q_spec_l2Variable q_spec_VetoPlayers_l0) (retMask Tryd.f73) (lp Tryd.f73 0).body (lp Tryd.f73 0).ex ((lp Tryd.f73 0).lv (retMask Tryd.f73)) (h73_0_0  v0 v1 v2 v3) (nextR (fun s' => rec_ (s'.tidy ((lp Tryd.f73 0).lv (retMask Tryd.f73)))) K) = BV_spec_VetoPlayers_l0b N q_spec_IsSimpleGame q_spec_l2Variable  v0 v1 v2 v3 (fun v0 v1 v2 v3 => rec_ (h73_0_0  v0 v1 v2 v3)) (fun y0 => K (.exit 0) (x73_0_0_k0  y0)) := by kernel_rfl
theorem st73_0_0 {β : Type} (N : Nat)  (v0 : Int) (v1 : Int) (v2 : Int) (v3 : List Int) (rec_ : St → Option β) (K : Exit → St → Option β) :
    ev lay (E73 N) (retMask Tryd.f73) (lp Tryd.f73 0).body (lp Tryd.f73 0).ex ((lp Tryd.f73 0).lv (retMask Tryd.f73)) (h73_0_0  v0 v1 v2 v3) (nextR (fun s' => rec_ (s'.tidy ((lp Tryd.f73 0).lv (retMask Tryd.f73)))) K) = spec_VetoPlayers_l0b N  v0 v1 v2 v3 (fun v0 v1 v2 v3 => rec_ (h73_0_0  v0 v1 v2 v3)) (fun y0 => K (.exit 0) (x73_0_0_k0  y0)) := (vst73_0_0 N (spec_IsSimpleGame N) (spec_l2Variable N) (spec_VetoPlayers_l0 N) v0 v1 v2 v3 rec_ K).trans (t_spec_VetoPlayers_l0b N  v0 v1 v2 v3 (fun v0 v1 v2 v3 => rec_ (h73_0_0  v0 v1 v2 v3)) (fun y0 => K (.exit 0) (x73_0_0_k0  y0))).symm
theorem ro73_0_0 {β : Type} (N : Nat)  (K : Exit → St → Option β) : ∀ (F : Nat) (v0 : Int) (v1 : Int) (v2 : Int) (v3 : List Int), (lp Tryd.f73 0).rounds lay (E73 N) (retMask Tryd.f73) F (h73_0_0  v0 v1 v2 v3) K = spec_VetoPlayers_l0 N  F v0 v1 v2 v3 (fun y0 => K (.exit 0) (x73_0_0_k0  y0)) := by
  intro F
  induction F with
  | zero => intros; rfl
  | succ F ih =>
    intros
    rw [rounds_next]
    refine (st73_0_0 N  _ _ _ _ (fun s => (lp Tryd.f73 0).rounds lay (E73 N) (retMask Tryd.f73) F s K) K).trans ?_
    simp only [ih]
    rfl
theorem lk73_0 {β : Type} (N : Nat) : lookL (E73 (β := β) N).loops (lp Tryd.f73 0).id = LS73_0 N := by kernel_rfl
theorem rk73_0 {β : Type} (N : Nat) : RoundsOK lay (E73 (β := β) N) (retMask Tryd.f73) (lp Tryd.f73 0) := by
  intro s K r h
  rw [lk73_0] at h
  unfold LS73_0 VLS73_0 at h
  cases hb : shpSt (h73_0_0 0 0 0 []) s with
  | true =>
    rw [hb, cond_true] at h
    exact ⟨N, by rw [← shpSt_ref hb, fl73_0_0 s]; exact (ro73_0_0 N  K N (intS (oneA (vT (nx tund s.tmps 4)))) (intS (nx .und (cellsB (nx .dead s.blks 0)) 0)) (intS (nx .und (cellsB (nx .dead s.blks 0)) 1)) (rInts (rowB_ (nx .dead s.blks 1)))).trans h⟩
  | false =>
  rw [hb, cond_false] at h
  clear hb
  cases h
def BV_spec_VetoPlayers {β : Type} (N : Nat) (q_spec_VetoPlayers_l0 : Nat → Int → Int → Int → List Int → (List Int → Option β) → Option β) (a0 : Int) (a1 : Int) (k : List Int → Option β) : Option β :=
q_spec_VetoPlayers_l0  N 0 a0 a1 (([] : List Int)) (fun e5_0 =>
k e5_0)
theorem t_spec_VetoPlayers {β : Type} (N : Nat) (a0 : Int) (a1 : Int) (k : List Int → Option β) : spec_VetoPlayers N a0 a1 k = BV_spec_VetoPlayers N (spec_VetoPlayers_l0 N) a0 a1 k := by
  unfold spec_VetoPlayers BV_spec_VetoPlayers
  rfl
theorem ve73_0 {β : Type} (N : Nat) (q_spec_IsSimpleGame : (a0 : Int) → (a1 : Int) → (k : Bool → Option β) → Option β) (q_spec_l2Variable : (a0 : Int) → (a1 : Int) → (k : Int → Option β) → Option β) (q_spec_VetoPlayers_l0 : Nat → Int → Int → Int → List Int → (List Int → Option β) → Option β)  (a0 : Int) (a1 : Int) (K : TV → Option β) : evFn lay (VE73 N q_spec_IsSimpleGame q_spec_l2Variable q_spec_VetoPlayers_l0) Tryd.f73 [.v (.agg [.int .i64 a0, .int .i64 a1])] K = BV_spec_VetoPlayers N q_spec_VetoPlayers_l0 a0 a1 (fun z2 => K (.v (.one (.sl 3 (.ints .i64 z2))))) := by kernel_rfl
theorem e73_0 {β : Type} (N : Nat)  (a0 : Int) (a1 : Int) (K : TV → Option β) : evFn lay (E73 N) Tryd.f73 [.v (.agg [.int .i64 a0, .int .i64 a1])] K = spec_VetoPlayers N a0 a1 (fun z2 => K (.v (.one (.sl 3 (.ints .i64 z2))))) := (ve73_0 N (spec_IsSimpleGame N) (spec_l2Variable N) (spec_VetoPlayers_l0 N) a0 a1 K).trans (t_spec_VetoPlayers N a0 a1 (fun z2 => K (.v (.one (.sl 3 (.ints .i64 z2)))))).symm
theorem o73 {β : Type} (N : Nat) : SpecOK (β := β) inv Tryd.prog 73 (S73 N) := by
  refine spec_of lay_ok mixed (E := E73 N) (specs_loops (specs_cons (o69 N) (specs_cons (o134 N) specs_nil))) muts_nil gs_nil Tryd.func73 (by kernel_rfl) 1 (by kernel_rfl) ⟨trivial, rk73_0 N⟩ fun args K r h => ?_
  unfold S73 VS73 at h
  split at h
  · exact (e73_0 N _ _ _).trans h
  · cases h
def VS135 {β : Type} (N : Nat) (q_spec_l3Depends : (a0 : Int) → (a1 : Int) → (a2 : Int) → (k : Bool → Option β) → Option β) : Rv.Spec β := fun args K => match args with
  | [.v (.agg [.int .i64 a0, .int .i64 a1]), .v (.one (.int .i64 a2))] => q_spec_l3Depends a0 a1 a2 (fun z3 => K (.v (.one (.bool z3))))
  | _ => none
def S135 {β : Type} (N : Nat) : Rv.Spec β := VS135 N (spec_l3Depends N)
def VE135 {β : Type} (N : Nat) (q_spec_l3Restrict : (a0 : Int) → (a1 : Int) → (a2 : Int) → (a3 : Int) → (k : Int → Int → Option β) → Option β) : Env β := ⟨[(191, VS191 N q_spec_l3Restrict)], [], [], [], ⟨[], [], []⟩⟩
def E135 {β : Type} (N : Nat) : Env β := VE135 N (spec_l3Restrict N)
def BV_spec_l3Depends {β : Type} (N : Nat) (q_spec_l3Restrict : (a0 : Int) → (a1 : Int) → (a2 : Int) → (a3 : Int) → (k : Int → Int → Option β) → Option β) (a0 : Int) (a1 : Int) (a2 : Int) (k : Bool → Option β) : Option β :=
q_spec_l3Restrict a0 a1 a2 0 fun r4 r5 =>
q_spec_l3Restrict a0 a1 a2 1 fun r6 r7 =>
k ((r5 != r7))
theorem t_spec_l3Depends {β : Type} (N : Nat) (a0 : Int) (a1 : Int) (a2 : Int) (k : Bool → Option β) : spec_l3Depends N a0 a1 a2 k = BV_spec_l3Depends N (spec_l3Restrict N) a0 a1 a2 k := by
  unfold spec_l3Depends BV_spec_l3Depends
  rfl
theorem ve135_0 {β : Type} (N : Nat) (q_spec_l3Restrict : (a0 : Int) → (a1 : Int) → (a2 : Int) → (a3 : Int) → (k : Int → Int → Option β) → Option β)  (a0 : Int) (a1 : Int) (a2 : Int) (K : TV → Option β) : evFn lay (VE135 N q_spec_l3Restrict) Tryd.f135 [.v (.agg [.int .i64 a0, .int .i64 a1]), .v (.one (.int .i64 a2))] K = BV_spec_l3Depends N q_spec_l3Restrict a0 a1 a2 (fun z3 => K (.v (.one (.bool z3)))) := by kernel_rfl
theorem e135_0 {β : Type} (N : Nat)  (a0 : Int) (a1 : Int) (a2 : Int) (K : TV → Option β) : evFn lay (E135 N) Tryd.f135 [.v (.agg [.int .i64 a0, .int .i64 a1]), .v (.one (.int .i64 a2))] K = spec_l3Depends N a0 a1 a2 (fun z3 => K (.v (.one (.bool z3)))) := (ve135_0 N (spec_l3Restrict N) a0 a1 a2 K).trans (t_spec_l3Depends N a0 a1 a2 (fun z3 => K (.v (.one (.bool z3))))).symm
theorem o135 {β : Type} (N : Nat) : SpecOK (β := β) inv Tryd.prog 135 (S135 N) := by
  refine spec_of lay_ok mixed (E := E135 N) (specs_loops (specs_cons (o191 N) specs_nil)) muts_nil gs_nil Tryd.func135 (by kernel_rfl) 0 (by kernel_rfl) trivial fun args K r h => ?_
  unfold S135 VS135 at h
  split at h
  · exact (e135_0 N _ _ _ _).trans h
  · cases h
end Go.Proofs.YtfdggelojmofmaaDoor
