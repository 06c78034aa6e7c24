/- The functions that the claims reach answer as their texts do. -/
import Derived.Test.YtfdggelojmofmaaDoorE0
namespace Go.Proofs.YtfdggelojmofmaaDoor
open Go.Rv
set_option maxRecDepth 100000
set_option maxHeartbeats 2000000
set_option linter.unusedVariables false
def VS112 {β : Type} (N : Nat) (q_spec_QueriesOf : (a0 : ByteArray) → (a1 : Int) → (k : Int → Option β) → Option β) : Rv.Spec β := fun args K => match args with
  | [.v (.one (.str a0)), .v (.one (.int .i64 a1))] => q_spec_QueriesOf a0 a1 (fun z2 => K (.v (.one (.int .i64 z2))))
  | _ => none
def S112 {β : Type} (N : Nat) : Rv.Spec β := VS112 N (spec_QueriesOf N)
def VE112 {β : Type} (N : Nat) (q_spec_IsTree : (a0 : ByteArray) → (k : Bool → Option β) → Option β) (q_spec_l1In : (a0 : Int) → (a1 : Int) → (a2 : Int) → (k : Bool → Option β) → Option β) (q_spec_l7Run : (a0 : ByteArray) → (a1 : Int) → (k : Int → Int → Option β) → Option β) : Env β := ⟨[(111, VS111 N q_spec_IsTree), (43, VS43 N q_spec_l1In), (174, VS174 N q_spec_l7Run)], [], [], [], ⟨[], [], []⟩⟩
def E112 {β : Type} (N : Nat) : Env β := VE112 N (spec_IsTree N) (spec_l1In N) (spec_l7Run N)
def BV_spec_QueriesOf {β : Type} (N : Nat) (q_spec_IsTree : (a0 : ByteArray) → (k : Bool → Option β) → Option β) (q_spec_l1In : (a0 : Int) → (a1 : Int) → (a2 : Int) → (k : Bool → Option β) → Option β) (q_spec_l7Run : (a0 : ByteArray) → (a1 : Int) → (k : Int → Int → Option β) → Option β) (a0 : ByteArray) (a1 : Int) (k : Int → Option β) : Option β :=
q_spec_IsTree a0 fun r3 =>
(cond (!r3)
(k (-1))
(q_spec_l1In a1 0 31 fun r4 =>
(cond (!r4)
(k (-1))
(q_spec_l7Run a0 a1 fun r5 r6 =>
k r6))))
theorem t_spec_QueriesOf {β : Type} (N : Nat) (a0 : ByteArray) (a1 : Int) (k : Int → Option β) : spec_QueriesOf N a0 a1 k = BV_spec_QueriesOf N (spec_IsTree N) (spec_l1In N) (spec_l7Run N) a0 a1 k := by
  unfold spec_QueriesOf BV_spec_QueriesOf
  rfl
theorem ve112_0 {β : Type} (N : Nat) (q_spec_IsTree : (a0 : ByteArray) → (k : Bool → Option β) → Option β) (q_spec_l1In : (a0 : Int) → (a1 : Int) → (a2 : Int) → (k : Bool → Option β) → Option β) (q_spec_l7Run : (a0 : ByteArray) → (a1 : Int) → (k : Int → Int → Option β) → Option β)  (a0 : ByteArray) (a1 : Int) (K : TV → Option β) : evFn lay (VE112 N q_spec_IsTree q_spec_l1In q_spec_l7Run) Tryd.f112 [.v (.one (.str a0)), .v (.one (.int .i64 a1))] K = BV_spec_QueriesOf N q_spec_IsTree q_spec_l1In q_spec_l7Run a0 a1 (fun z2 => K (.v (.one (.int .i64 z2)))) := by kernel_rfl
theorem e112_0 {β : Type} (N : Nat)  (a0 : ByteArray) (a1 : Int) (K : TV → Option β) : evFn lay (E112 N) Tryd.f112 [.v (.one (.str a0)), .v (.one (.int .i64 a1))] K = spec_QueriesOf N a0 a1 (fun z2 => K (.v (.one (.int .i64 z2)))) := (ve112_0 N (spec_IsTree N) (spec_l1In N) (spec_l7Run N) a0 a1 K).trans (t_spec_QueriesOf N a0 a1 (fun z2 => K (.v (.one (.int .i64 z2))))).symm
theorem o112 {β : Type} (N : Nat) : SpecOK (β := β) inv Tryd.prog 112 (S112 N) := by
  refine spec_of lay_ok mixed (E := E112 N) (specs_loops (specs_cons (o111 N) (specs_cons (o43 N) (specs_cons (o174 N) specs_nil)))) muts_nil gs_nil Tryd.func112 (by kernel_rfl) 0 (by kernel_rfl) trivial fun args K r h => ?_
  unfold S112 VS112 at h
  split at h
  · exact (e112_0 N _ _ _).trans h
  · cases h
def VS40 {β : Type} (N : Nat) (q_spec_DepthOfTree : (a0 : ByteArray) → (k : Int → Option β) → Option β) : Rv.Spec β := fun args K => match args with
  | [.v (.one (.str a0))] => q_spec_DepthOfTree a0 (fun z1 => K (.v (.one (.int .i64 z1))))
  | _ => none
def S40 {β : Type} (N : Nat) : Rv.Spec β := VS40 N (spec_DepthOfTree N)
def h40_0_0  (v0 : ByteArray) (v1 : Int) (v2 : Int) : St := ⟨.v (.one (.str v0)) :: .v (.one .und) :: .v (.one .und) :: .v (.one (.int .i64 v1)) :: .v (.one (.int .i64 v2)) :: .v (.one .und) :: .v (.one .und) :: .v (.one .und) :: .v (.one .und) :: .v (.one .und) :: .v (.one .und) :: .v (.one .und) :: .v (.one .und) :: .v (.one .und) :: .v (.one .und) :: .v (.one .und) :: .v (.one .und) :: .v (.one .und) :: [], []⟩
def x40_0_0_k0  (y0 : Int) : St := ⟨.v (.one .und) :: .v (.one .und) :: .v (.one .und) :: .v (.one (.int .i64 y0)) :: .v (.one .und) :: .v (.one .und) :: .v (.one .und) :: .v (.one .und) :: .v (.one .und) :: .v (.one .und) :: .v (.one .und) :: .v (.one .und) :: .v (.one .und) :: .v (.one .und) :: .v (.one .und) :: .v (.one .und) :: .v (.one .und) :: .v (.one .und) :: [], []⟩
theorem fl40_0_0 (s : St) : refSt (h40_0_0 ByteArray.empty 0 0) s = h40_0_0 (strS (oneA (vT (nx tund s.tmps 0)))) (intS (oneA (vT (nx tund s.tmps 3)))) (intS (oneA (vT (nx tund s.tmps 4)))) := by kernel_rfl
def VLS40_0 {β : Type} (N : Nat) (q_spec_DepthOfTree_l0 : Nat → ByteArray → Int → Int → (Int → Option β) → Option β) : LSpec β := fun s K => cond (shpSt (h40_0_0 ByteArray.empty 0 0) s) ((fun (v0 : ByteArray) (v1 : Int) (v2 : Int) => q_spec_DepthOfTree_l0  N v0 v1 v2 (fun y0 => K (.exit 0) (x40_0_0_k0  y0))) (strS (oneA (vT (nx tund s.tmps 0)))) (intS (oneA (vT (nx tund s.tmps 3)))) (intS (oneA (vT (nx tund s.tmps 4))))) (none)
def LS40_0 {β : Type} (N : Nat) : LSpec β := VLS40_0 N (spec_DepthOfTree_l0 N)
def VE40 {β : Type} (N : Nat) (q_spec_IsTree : (a0 : ByteArray) → (k : Bool → Option β) → Option β) (q_spec_QueriesOf : (a0 : ByteArray) → (a1 : Int) → (k : Int → Option β) → Option β) (q_spec_DepthOfTree_l0 : Nat → ByteArray → Int → Int → (Int → Option β) → Option β) : Env β := ⟨[(111, VS111 N q_spec_IsTree), (112, VS112 N q_spec_QueriesOf)], [], [(0, VLS40_0 N q_spec_DepthOfTree_l0)], [], ⟨[], [], []⟩⟩
def E40 {β : Type} (N : Nat) : Env β := VE40 N (spec_IsTree N) (spec_QueriesOf N) (spec_DepthOfTree_l0 N)
def BV_spec_DepthOfTree_l0b {β : Type} (N : Nat) (q_spec_QueriesOf : (a0 : ByteArray) → (a1 : Int) → (k : Int → Option β) → Option β)  (v0 : ByteArray) (v1 : Int) (v2 : Int) (rec_ : ByteArray → Int → Int → Option β) (k0 : Int → Option β) : Option β :=
(cond ((decide (v2 < 32)))
(q_spec_QueriesOf v0 v2 fun r3 =>
rec_ v0 ((mxI v1 r3)) ((w64 (v2 + 1))))
(k0 v1))
theorem t_spec_DepthOfTree_l0b {β : Type} (N : Nat)  (v0 : ByteArray) (v1 : Int) (v2 : Int) (rec_ : ByteArray → Int → Int → Option β) (k0 : Int → Option β) : spec_DepthOfTree_l0b N v0 v1 v2 rec_ k0 = BV_spec_DepthOfTree_l0b N (spec_QueriesOf N) v0 v1 v2 rec_ k0 := by
  unfold spec_DepthOfTree_l0b BV_spec_DepthOfTree_l0b
  rfl
theorem vst40_0_0 {β : Type} (N : Nat) (q_spec_IsTree : (a0 : ByteArray) → (k : Bool → Option β) → Option β) (q_spec_QueriesOf : (a0 : ByteArray) → (a1 : Int) → (k : Int → Option β) → Option β) (q_spec_DepthOfTree_l0 : Nat → ByteArray → Int → Int → (Int → Option β) → Option β)  (v0 : ByteArray) (v1 : Int) (v2 : Int) (rec_ : St → Option β) (K : Exit → St → Option β) :
    ev lay (VE40 N q_spec_IsTree q_spec_QueriesOf q_spec_DepthOfTree_l0) (retMask Tryd.f40) (lp Tryd.f40 0).body (lp Tryd.f40 0).ex ((lp Tryd.f40 0).lv (retMask Tryd.f40)) (h40_0_0  v0 v1 v2) (nextR (fun s' => rec_ (s'.tidy ((lp Tryd.f40 0).lv (retMask Tryd.f40)))) K) = BV_spec_DepthOfTree_l0b N q_spec_QueriesOf  v0 v1 v2 (fun v0 v1 v2 => rec_ (h40_0_0  v0 v1 v2)) (fun y0 => K (.exit 0) (x40_0_0_k0  y0)) := by kernel_rfl
theorem st40_0_0 {β : Type} (N : Nat)  (v0 : ByteArray) (v1 : Int) (v2 : Int) (rec_ : St → Option β) (K : Exit → St → Option β) :
    ev lay (E40 N) (retMask Tryd.f40) (lp Tryd.f40 0).body (lp Tryd.f40 0).ex ((lp Tryd.f40 0).lv (retMask Tryd.f40)) (h40_0_0  v0 v1 v2) (nextR (fun s' => rec_ (s'.tidy ((lp Tryd.f40 0).lv (retMask Tryd.f40)))) K) = spec_DepthOfTree_l0b N  v0 v1 v2 (fun v0 v1 v2 => rec_ (h40_0_0  v0 v1 v2)) (fun y0 => K (.exit 0) (x40_0_0_k0  y0)) := (vst40_0_0 N (spec_IsTree N) (spec_QueriesOf N) (spec_DepthOfTree_l0 N) v0 v1 v2 rec_ K).trans (t_spec_DepthOfTree_l0b N  v0 v1 v2 (fun v0 v1 v2 => rec_ (h40_0_0  v0 v1 v2)) (fun y0 => K (.exit 0) (x40_0_0_k0  y0))).symm
theorem ro40_0_0 {β : Type} (N : Nat)  (K : Exit → St → Option β) : ∀ (F : Nat) (v0 : ByteArray) (v1 : Int) (v2 : Int), (lp Tryd.f40 0).rounds lay (E40 N) (retMask Tryd.f40) F (h40_0_0  v0 v1 v2) K = spec_DepthOfTree_l0 N  F v0 v1 v2 (fun y0 => K (.exit 0) (x40_0_0_k0  y0)) := by
  intro F
  induction F with
  | zero => intros; rfl
  | succ F ih =>
    intros
    rw [rounds_next]
    refine (st40_0_0 N  _ _ _ (fun s => (lp Tryd.f40 0).rounds lay (E40 N) (retMask Tryd.f40) F s K) K).trans ?_
    simp only [ih]
    rfl
theorem lk40_0 {β : Type} (N : Nat) : lookL (E40 (β := β) N).loops (lp Tryd.f40 0).id = LS40_0 N := by kernel_rfl
theorem rk40_0 {β : Type} (N : Nat) : RoundsOK lay (E40 (β := β) N) (retMask Tryd.f40) (lp Tryd.f40 0) := by
  intro s K r h
  rw [lk40_0] at h
  unfold LS40_0 VLS40_0 at h
  cases hb : shpSt (h40_0_0 ByteArray.empty 0 0) s with
  | true =>
    rw [hb, cond_true] at h
    exact ⟨N, by rw [← shpSt_ref hb, fl40_0_0 s]; exact (ro40_0_0 N  K N (strS (oneA (vT (nx tund s.tmps 0)))) (intS (oneA (vT (nx tund s.tmps 3)))) (intS (oneA (vT (nx tund s.tmps 4))))).trans h⟩
  | false =>
  rw [hb, cond_false] at h
  clear hb
  cases h
def BV_spec_DepthOfTree {β : Type} (N : Nat) (q_spec_IsTree : (a0 : ByteArray) → (k : Bool → Option β) → Option β) (q_spec_DepthOfTree_l0 : Nat → ByteArray → Int → Int → (Int → Option β) → Option β) (a0 : ByteArray) (k : Int → Option β) : Option β :=
q_spec_IsTree a0 fun r2 =>
(cond (!r2)
(k (-1))
(q_spec_DepthOfTree_l0  N a0 0 0 (fun e4_0 =>
k e4_0)))
theorem t_spec_DepthOfTree {β : Type} (N : Nat) (a0 : ByteArray) (k : Int → Option β) : spec_DepthOfTree N a0 k = BV_spec_DepthOfTree N (spec_IsTree N) (spec_DepthOfTree_l0 N) a0 k := by
  unfold spec_DepthOfTree BV_spec_DepthOfTree
  rfl
theorem ve40_0 {β : Type} (N : Nat) (q_spec_IsTree : (a0 : ByteArray) → (k : Bool → Option β) → Option β) (q_spec_QueriesOf : (a0 : ByteArray) → (a1 : Int) → (k : Int → Option β) → Option β) (q_spec_DepthOfTree_l0 : Nat → ByteArray → Int → Int → (Int → Option β) → Option β)  (a0 : ByteArray) (K : TV → Option β) : evFn lay (VE40 N q_spec_IsTree q_spec_QueriesOf q_spec_DepthOfTree_l0) Tryd.f40 [.v (.one (.str a0))] K = BV_spec_DepthOfTree N q_spec_IsTree q_spec_DepthOfTree_l0 a0 (fun z1 => K (.v (.one (.int .i64 z1)))) := by kernel_rfl
theorem e40_0 {β : Type} (N : Nat)  (a0 : ByteArray) (K : TV → Option β) : evFn lay (E40 N) Tryd.f40 [.v (.one (.str a0))] K = spec_DepthOfTree N a0 (fun z1 => K (.v (.one (.int .i64 z1)))) := (ve40_0 N (spec_IsTree N) (spec_QueriesOf N) (spec_DepthOfTree_l0 N) a0 K).trans (t_spec_DepthOfTree N a0 (fun z1 => K (.v (.one (.int .i64 z1))))).symm
theorem o40 {β : Type} (N : Nat) : SpecOK (β := β) inv Tryd.prog 40 (S40 N) := by
  refine spec_of lay_ok mixed (E := E40 N) (specs_loops (specs_cons (o111 N) (specs_cons (o112 N) specs_nil))) muts_nil gs_nil Tryd.func40 (by kernel_rfl) 1 (by kernel_rfl) ⟨trivial, rk40_0 N⟩ fun args K r h => ?_
  unfold S40 VS40 at h
  split at h
  · exact (e40_0 N _ _).trans h
  · cases h
def VS16 {β : Type} (N : Nat) (q_spec_ClaimOfDepth : (a0 : Int) → (a1 : Int) → (k : Int → Int → Int → Int → Int → ByteArray → List Int → Bool → Option β) → Option β) : Rv.Spec β := fun args K => match args with
  | [.v (.agg [.int .i64 a0, .int .i64 a1])] => q_spec_ClaimOfDepth a0 a1 (fun z2 z3 z4 z5 z6 z7 z8 z9 => K (.tup [.agg [.int .i64 z2, .int .i64 z3, .int .i64 z4, .int .i64 z5, .int .i64 z6, .str z7, .sl 3 (.ints .i64 z8)], .one (.bool z9)]))
  | _ => none
def S16 {β : Type} (N : Nat) : Rv.Spec β := VS16 N (spec_ClaimOfDepth N)
def VE16 {β : Type} (N : Nat) (q_spec_BestTree : (a0 : Int) → (a1 : Int) → (k : ByteArray → Bool → Option β) → Option β) (q_spec_DepthOfTree : (a0 : ByteArray) → (k : Int → Option β) → Option β) : Env β := ⟨[(39, VS39 N q_spec_BestTree), (40, VS40 N q_spec_DepthOfTree)], [], [], [], ⟨[], [], []⟩⟩
def E16 {β : Type} (N : Nat) : Env β := VE16 N (spec_BestTree N) (spec_DepthOfTree N)
def BV_spec_ClaimOfDepth {β : Type} (N : Nat) (q_spec_BestTree : (a0 : Int) → (a1 : Int) → (k : ByteArray → Bool → Option β) → Option β) (q_spec_DepthOfTree : (a0 : ByteArray) → (k : Int → Option β) → Option β) (a0 : Int) (a1 : Int) (k : Int → Int → Int → Int → Int → ByteArray → List Int → Bool → Option β) : Option β :=
q_spec_BestTree a0 a1 fun r10 r11 =>
(cond (!r11)
(k 0 0 0 0 0 ByteArray.empty (([] : List Int)) false)
(q_spec_DepthOfTree r10 fun r12 =>
k 1 a0 a1 r12 0 r10 (([] : List Int)) true))
theorem t_spec_ClaimOfDepth {β : Type} (N : Nat) (a0 : Int) (a1 : Int) (k : Int → Int → Int → Int → Int → ByteArray → List Int → Bool → Option β) : spec_ClaimOfDepth N a0 a1 k = BV_spec_ClaimOfDepth N (spec_BestTree N) (spec_DepthOfTree N) a0 a1 k := by
  unfold spec_ClaimOfDepth BV_spec_ClaimOfDepth
  rfl
theorem ve16_0 {β : Type} (N : Nat) (q_spec_BestTree : (a0 : Int) → (a1 : Int) → (k : ByteArray → Bool → Option β) → Option β) (q_spec_DepthOfTree : (a0 : ByteArray) → (k : Int → Option β) → Option β)  (a0 : Int) (a1 : Int) (K : TV → Option β) : evFn lay (VE16 N q_spec_BestTree q_spec_DepthOfTree) Tryd.f16 [.v (.agg [.int .i64 a0, .int .i64 a1])] K = BV_spec_ClaimOfDepth N q_spec_BestTree q_spec_DepthOfTree a0 a1 (fun z2 z3 z4 z5 z6 z7 z8 z9 => K (.tup [.agg [.int .i64 z2, .int .i64 z3, .int .i64 z4, .int .i64 z5, .int .i64 z6, .str z7, .sl 3 (.ints .i64 z8)], .one (.bool z9)])) := by kernel_rfl
theorem e16_0 {β : Type} (N : Nat)  (a0 : Int) (a1 : Int) (K : TV → Option β) : evFn lay (E16 N) Tryd.f16 [.v (.agg [.int .i64 a0, .int .i64 a1])] K = spec_ClaimOfDepth N a0 a1 (fun z2 z3 z4 z5 z6 z7 z8 z9 => K (.tup [.agg [.int .i64 z2, .int .i64 z3, .int .i64 z4, .int .i64 z5, .int .i64 z6, .str z7, .sl 3 (.ints .i64 z8)], .one (.bool z9)])) := (ve16_0 N (spec_BestTree N) (spec_DepthOfTree N) a0 a1 K).trans (t_spec_ClaimOfDepth N a0 a1 (fun z2 z3 z4 z5 z6 z7 z8 z9 => K (.tup [.agg [.int .i64 z2, .int .i64 z3, .int .i64 z4, .int .i64 z5, .int .i64 z6, .str z7, .sl 3 (.ints .i64 z8)], .one (.bool z9)]))).symm
theorem o16 {β : Type} (N : Nat) : SpecOK (β := β) inv Tryd.prog 16 (S16 N) := by
  refine spec_of lay_ok mixed (E := E16 N) (specs_loops (specs_cons (o39 N) (specs_cons (o40 N) specs_nil))) muts_nil gs_nil Tryd.func16 (by kernel_rfl) 0 (by kernel_rfl) trivial fun args K r h => ?_
  unfold S16 VS16 at h
  split at h
  · exact (e16_0 N _ _ _).trans h
  · cases h
def VS46 {β : Type} (N : Nat) (q_impl_isBits : (a0 : Int) → (k : Bool → Option β) → Option β) : Rv.Spec β := fun args K => match args with
  | [.v (.one (.int .i64 a0))] => q_impl_isBits a0 (fun z1 => K (.v (.one (.bool z1))))
  | _ => none
def S46 {β : Type} (N : Nat) : Rv.Spec β := VS46 N (impl_isBits N)
def VE46 {β : Type} (N : Nat) : Env β := ⟨[], [], [], [], ⟨[], [], []⟩⟩
def E46 {β : Type} (N : Nat) : Env β := VE46 N
def BV_impl_isBits {β : Type} (N : Nat) (a0 : Int) (k : Bool → Option β) : Option β :=
(cond ((decide (a0 ≥ 0)))
(k ((decide (a0 ≤ 5))))
(k false))
theorem t_impl_isBits {β : Type} (N : Nat) (a0 : Int) (k : Bool → Option β) : impl_isBits N a0 k = BV_impl_isBits N a0 k := by
  unfold impl_isBits BV_impl_isBits
  rfl
theorem ve46_0 {β : Type} (N : Nat)  (a0 : Int) (K : TV → Option β) : evFn lay (VE46 N) Tryd.f46 [.v (.one (.int .i64 a0))] K = BV_impl_isBits N a0 (fun z1 => K (.v (.one (.bool z1)))) := by kernel_rfl
theorem e46_0 {β : Type} (N : Nat)  (a0 : Int) (K : TV → Option β) : evFn lay (E46 N) Tryd.f46 [.v (.one (.int .i64 a0))] K = impl_isBits N a0 (fun z1 => K (.v (.one (.bool z1)))) := (ve46_0 N a0 K).trans (t_impl_isBits N a0 (fun z1 => K (.v (.one (.bool z1))))).symm
theorem o46 {β : Type} (N : Nat) : SpecOK (β := β) inv Tryd.prog 46 (S46 N) := by
  refine spec_of lay_ok mixed (E := E46 N) (specs_loops specs_nil) muts_nil gs_nil Tryd.func46 (by kernel_rfl) 0 (by kernel_rfl) trivial fun args K r h => ?_
  unfold S46 VS46 at h
  split at h
  · exact (e46_0 N _ _).trans h
  · cases h
def VS125 {β : Type} (N : Nat) (q_impl_Table_size : (a0 : Int) → (a1 : Int) → (k : Int → Option β) → Option β) : Rv.Spec β := fun args K => match args with
  | [.v (.agg [.int .i64 a0, .int .i64 a1])] => q_impl_Table_size a0 a1 (fun z2 => K (.v (.one (.int .i64 z2))))
  | _ => none
def S125 {β : Type} (N : Nat) : Rv.Spec β := VS125 N (impl_Table_size N)
def VE125 {β : Type} (N : Nat) : Env β := ⟨[], [], [], [], ⟨[], [], []⟩⟩
def E125 {β : Type} (N : Nat) : Env β := VE125 N
def BV_impl_Table_size {β : Type} (N : Nat) (a0 : Int) (a1 : Int) (k : Int → Option β) : Option β :=
(gd ((decide (0 ≤ a0)))
(k ((shlI .i64 1 a0))))
theorem t_impl_Table_size {β : Type} (N : Nat) (a0 : Int) (a1 : Int) (k : Int → Option β) : impl_Table_size N a0 a1 k = BV_impl_Table_size N a0 a1 k := by
  unfold impl_Table_size BV_impl_Table_size
  rfl
theorem ve125_0 {β : Type} (N : Nat)  (a0 : Int) (a1 : Int) (K : TV → Option β) : evFn lay (VE125 N) Tryd.f125 [.v (.agg [.int .i64 a0, .int .i64 a1])] K = BV_impl_Table_size N a0 a1 (fun z2 => K (.v (.one (.int .i64 z2)))) := by kernel_rfl
theorem e125_0 {β : Type} (N : Nat)  (a0 : Int) (a1 : Int) (K : TV → Option β) : evFn lay (E125 N) Tryd.f125 [.v (.agg [.int .i64 a0, .int .i64 a1])] K = impl_Table_size N a0 a1 (fun z2 => K (.v (.one (.int .i64 z2)))) := (ve125_0 N a0 a1 K).trans (t_impl_Table_size N a0 a1 (fun z2 => K (.v (.one (.int .i64 z2))))).symm
theorem o125 {β : Type} (N : Nat) : SpecOK (β := β) inv Tryd.prog 125 (S125 N) := by
  refine spec_of lay_ok mixed (E := E125 N) (specs_loops specs_nil) muts_nil gs_nil Tryd.func125 (by kernel_rfl) 0 (by kernel_rfl) trivial fun args K r h => ?_
  unfold S125 VS125 at h
  split at h
  · exact (e125_0 N _ _ _).trans h
  · cases h
def VS59 {β : Type} (N : Nat) (q_impl_IsTable : (a0 : Int) → (a1 : Int) → (k : Bool → Option β) → Option β) : Rv.Spec β := fun args K => match args with
  | [.v (.agg [.int .i64 a0, .int .i64 a1])] => q_impl_IsTable a0 a1 (fun z2 => K (.v (.one (.bool z2))))
  | _ => none
def S59 {β : Type} (N : Nat) : Rv.Spec β := VS59 N (impl_IsTable N)
def VE59 {β : Type} (N : Nat) (q_impl_isBits : (a0 : Int) → (k : Bool → Option β) → Option β) (q_impl_Table_size : (a0 : Int) → (a1 : Int) → (k : Int → Option β) → Option β) : Env β := ⟨[(46, VS46 N q_impl_isBits), (125, VS125 N q_impl_Table_size)], [], [], [], ⟨[], [], []⟩⟩
def E59 {β : Type} (N : Nat) : Env β := VE59 N (impl_isBits N) (impl_Table_size N)
def BV_impl_IsTable {β : Type} (N : Nat) (q_impl_isBits : (a0 : Int) → (k : Bool → Option β) → Option β) (q_impl_Table_size : (a0 : Int) → (a1 : Int) → (k : Int → Option β) → Option β) (a0 : Int) (a1 : Int) (k : Bool → Option β) : Option β :=
q_impl_isBits a0 fun r3 =>
(cond r3
((cond ((decide (a1 ≥ 0)))
(q_impl_Table_size a0 a1 fun r4 =>
(gd ((decide (0 ≤ r4)))
(k (((shrI .i64 a1 r4) == 0)))))
(k false)))
(k false))
theorem t_impl_IsTable {β : Type} (N : Nat) (a0 : Int) (a1 : Int) (k : Bool → Option β) : impl_IsTable N a0 a1 k = BV_impl_IsTable N (impl_isBits N) (impl_Table_size N) a0 a1 k := by
  unfold impl_IsTable BV_impl_IsTable
  rfl
theorem ve59_0 {β : Type} (N : Nat) (q_impl_isBits : (a0 : Int) → (k : Bool → Option β) → Option β) (q_impl_Table_size : (a0 : Int) → (a1 : Int) → (k : Int → Option β) → Option β)  (a0 : Int) (a1 : Int) (K : TV → Option β) : evFn lay (VE59 N q_impl_isBits q_impl_Table_size) Tryd.f59 [.v (.agg [.int .i64 a0, .int .i64 a1])] K = BV_impl_IsTable N q_impl_isBits q_impl_Table_size a0 a1 (fun z2 => K (.v (.one (.bool z2)))) := by kernel_rfl
theorem e59_0 {β : Type} (N : Nat)  (a0 : Int) (a1 : Int) (K : TV → Option β) : evFn lay (E59 N) Tryd.f59 [.v (.agg [.int .i64 a0, .int .i64 a1])] K = impl_IsTable N a0 a1 (fun z2 => K (.v (.one (.bool z2)))) := (ve59_0 N (impl_isBits N) (impl_Table_size N) a0 a1 K).trans (t_impl_IsTable N a0 a1 (fun z2 => K (.v (.one (.bool z2))))).symm
theorem o59 {β : Type} (N : Nat) : SpecOK (β := β) inv Tryd.prog 59 (S59 N) := by
  refine spec_of lay_ok mixed (E := E59 N) (specs_loops (specs_cons (o46 N) (specs_cons (o125 N) specs_nil))) muts_nil gs_nil Tryd.func59 (by kernel_rfl) 0 (by kernel_rfl) trivial fun args K r h => ?_
  unfold S59 VS59 at h
  split at h
  · exact (e59_0 N _ _ _).trans h
  · cases h
def VS107 {β : Type} (N : Nat) (q_impl_isSmall : (a0 : Int) → (a1 : Int) → (a2 : Int) → (k : Bool → Option β) → Option β) : Rv.Spec β := fun args K => match args with
  | [.v (.agg [.int .i64 a0, .int .i64 a1]), .v (.one (.int .i64 a2))] => q_impl_isSmall a0 a1 a2 (fun z3 => K (.v (.one (.bool z3))))
  | _ => none
def S107 {β : Type} (N : Nat) : Rv.Spec β := VS107 N (impl_isSmall N)
def VE107 {β : Type} (N : Nat) (q_impl_IsTable : (a0 : Int) → (a1 : Int) → (k : Bool → Option β) → Option β) : Env β := ⟨[(59, VS59 N q_impl_IsTable)], [], [], [], ⟨[], [], []⟩⟩
def E107 {β : Type} (N : Nat) : Env β := VE107 N (impl_IsTable N)
def BV_impl_isSmall {β : Type} (N : Nat) (q_impl_IsTable : (a0 : Int) → (a1 : Int) → (k : Bool → Option β) → Option β) (a0 : Int) (a1 : Int) (a2 : Int) (k : Bool → Option β) : Option β :=
q_impl_IsTable a0 a1 fun r4 =>
(cond r4
(k ((decide (a0 ≤ a2))))
(k false))
theorem t_impl_isSmall {β : Type} (N : Nat) (a0 : Int) (a1 : Int) (a2 : Int) (k : Bool → Option β) : impl_isSmall N a0 a1 a2 k = BV_impl_isSmall N (impl_IsTable N) a0 a1 a2 k := by
  unfold impl_isSmall BV_impl_isSmall
  rfl
theorem ve107_0 {β : Type} (N : Nat) (q_impl_IsTable : (a0 : Int) → (a1 : Int) → (k : Bool → Option β) → Option β)  (a0 : Int) (a1 : Int) (a2 : Int) (K : TV → Option β) : evFn lay (VE107 N q_impl_IsTable) Tryd.f107 [.v (.agg [.int .i64 a0, .int .i64 a1]), .v (.one (.int .i64 a2))] K = BV_impl_isSmall N q_impl_IsTable a0 a1 a2 (fun z3 => K (.v (.one (.bool z3)))) := by kernel_rfl
theorem e107_0 {β : Type} (N : Nat)  (a0 : Int) (a1 : Int) (a2 : Int) (K : TV → Option β) : evFn lay (E107 N) Tryd.f107 [.v (.agg [.int .i64 a0, .int .i64 a1]), .v (.one (.int .i64 a2))] K = impl_isSmall N a0 a1 a2 (fun z3 => K (.v (.one (.bool z3)))) := (ve107_0 N (impl_IsTable N) a0 a1 a2 K).trans (t_impl_isSmall N a0 a1 a2 (fun z3 => K (.v (.one (.bool z3))))).symm
theorem o107 {β : Type} (N : Nat) : SpecOK (β := β) inv Tryd.prog 107 (S107 N) := by
  refine spec_of lay_ok mixed (E := E107 N) (specs_loops (specs_cons (o59 N) specs_nil)) muts_nil gs_nil Tryd.func107 (by kernel_rfl) 0 (by kernel_rfl) trivial fun args K r h => ?_
  unfold S107 VS107 at h
  split at h
  · exact (e107_0 N _ _ _ _).trans h
  · cases h
def VS113 {β : Type} (N : Nat) (q_impl_Table_asking_g0 : (a0 : Int) → (a1 : Int) → (k0 : Int → Int → Mp → Mp → Option β) → Option β) : GSpec β := fun args bl K => match args, bl with
  | [.v (.agg [.int .i64 a0, .int .i64 a1])], [] => q_impl_Table_asking_g0 a0 a1 (fun y0 y1 y2 y3 => K (.v (.one (.ptr 0 0))) [.cells 156 [.int .i64 y0, .int .i64 y1, .mp 1, .mp 2], .mp ⟨true, false⟩ y2, .mp ⟨true, false⟩ y3])
  | _, _ => none
def S113 {β : Type} (N : Nat) : GSpec β := VS113 N (impl_Table_asking_g0 N)
def VE113 {β : Type} (N : Nat) : Env β := ⟨[], [], [], [], ⟨[], [], []⟩⟩
def E113 {β : Type} (N : Nat) : Env β := VE113 N
def BV_impl_Table_asking_g0 {β : Type} (N : Nat) (a0 : Int) (a1 : Int) (k0 : Int → Int → Mp → Mp → Option β) : Option β :=
k0 a0 a1 (([] : Mp)) (([] : Mp))
theorem t_impl_Table_asking_g0 {β : Type} (N : Nat) (a0 : Int) (a1 : Int) (k0 : Int → Int → Mp → Mp → Option β) : impl_Table_asking_g0 N a0 a1 k0 = BV_impl_Table_asking_g0 N a0 a1 k0 := by
  unfold impl_Table_asking_g0 BV_impl_Table_asking_g0
  rfl
theorem ve113_0 {β : Type} (N : Nat) (a0 : Int) (a1 : Int) (K : TV → List Blk → Option β) : evFnG lay (VE113 N) Tryd.f113 [.v (.agg [.int .i64 a0, .int .i64 a1])] [] K = BV_impl_Table_asking_g0 N a0 a1 (fun y0 y1 y2 y3 => K (.v (.one (.ptr 0 0))) [.cells 156 [.int .i64 y0, .int .i64 y1, .mp 1, .mp 2], .mp ⟨true, false⟩ y2, .mp ⟨true, false⟩ y3]) := by kernel_rfl
theorem e113_0 {β : Type} (N : Nat) (a0 : Int) (a1 : Int) (K : TV → List Blk → Option β) : evFnG lay (E113 N) Tryd.f113 [.v (.agg [.int .i64 a0, .int .i64 a1])] [] K = impl_Table_asking_g0 N a0 a1 (fun y0 y1 y2 y3 => K (.v (.one (.ptr 0 0))) [.cells 156 [.int .i64 y0, .int .i64 y1, .mp 1, .mp 2], .mp ⟨true, false⟩ y2, .mp ⟨true, false⟩ y3]) := (ve113_0 N a0 a1 K).trans (t_impl_Table_asking_g0 N a0 a1 (fun y0 y1 y2 y3 => K (.v (.one (.ptr 0 0))) [.cells 156 [.int .i64 y0, .int .i64 y1, .mp 1, .mp 2], .mp ⟨true, false⟩ y2, .mp ⟨true, false⟩ y3])).symm
theorem o113 {β : Type} (N : Nat) : GOK (β := β) inv Tryd.prog 113 (S113 N) := by
  refine g_of lay_ok mixed (E := E113 N) (specs_loops specs_nil) muts_nil gs_nil Tryd.func113 (by kernel_rfl) 0 (by kernel_rfl) trivial fun args bl K r h => ?_
  unfold S113 VS113 at h
  split at h
  · exact (e113_0 N _ _ _).trans h
  · cases h
def VS128 {β : Type} (N : Nat) (q_impl_Table_at : (a0 : Int) → (a1 : Int) → (a2 : Int) → (k : Int → Option β) → Option β) : Rv.Spec β := fun args K => match args with
  | [.v (.agg [.int .i64 a0, .int .i64 a1]), .v (.one (.int .i64 a2))] => q_impl_Table_at a0 a1 a2 (fun z3 => K (.v (.one (.int .i64 z3))))
  | _ => none
def S128 {β : Type} (N : Nat) : Rv.Spec β := VS128 N (impl_Table_at N)
def VE128 {β : Type} (N : Nat) : Env β := ⟨[], [], [], [], ⟨[], [], []⟩⟩
def E128 {β : Type} (N : Nat) : Env β := VE128 N
def BV_impl_Table_at {β : Type} (N : Nat) (a0 : Int) (a1 : Int) (a2 : Int) (k : Int → Option β) : Option β :=
(gd ((decide (0 ≤ a2)))
(k ((bits .and .i64 (shrI .i64 a1 a2) 1))))
theorem t_impl_Table_at {β : Type} (N : Nat) (a0 : Int) (a1 : Int) (a2 : Int) (k : Int → Option β) : impl_Table_at N a0 a1 a2 k = BV_impl_Table_at N a0 a1 a2 k := by
  unfold impl_Table_at BV_impl_Table_at
  rfl
theorem ve128_0 {β : Type} (N : Nat)  (a0 : Int) (a1 : Int) (a2 : Int) (K : TV → Option β) : evFn lay (VE128 N) Tryd.f128 [.v (.agg [.int .i64 a0, .int .i64 a1]), .v (.one (.int .i64 a2))] K = BV_impl_Table_at N a0 a1 a2 (fun z3 => K (.v (.one (.int .i64 z3)))) := by kernel_rfl
theorem e128_0 {β : Type} (N : Nat)  (a0 : Int) (a1 : Int) (a2 : Int) (K : TV → Option β) : evFn lay (E128 N) Tryd.f128 [.v (.agg [.int .i64 a0, .int .i64 a1]), .v (.one (.int .i64 a2))] K = impl_Table_at N a0 a1 a2 (fun z3 => K (.v (.one (.int .i64 z3)))) := (ve128_0 N a0 a1 a2 K).trans (t_impl_Table_at N a0 a1 a2 (fun z3 => K (.v (.one (.int .i64 z3))))).symm
theorem o128 {β : Type} (N : Nat) : SpecOK (β := β) inv Tryd.prog 128 (S128 N) := by
  refine spec_of lay_ok mixed (E := E128 N) (specs_loops specs_nil) muts_nil gs_nil Tryd.func128 (by kernel_rfl) 0 (by kernel_rfl) trivial fun args K r h => ?_
  unfold S128 VS128 at h
  split at h
  · exact (e128_0 N _ _ _ _).trans h
  · cases h
def VS176 {β : Type} (N : Nat) (q_impl_Table_cube : (a0 : Int) → (a1 : Int) → (a2 : Int) → (a3 : Int) → (k : Int → Option β) → Option β) : Rv.Spec β := fun args K => match args with
  | [.v (.agg [.int .i64 a0, .int .i64 a1]), .v (.one (.int .i64 a2)), .v (.one (.int .i64 a3))] => q_impl_Table_cube a0 a1 a2 a3 (fun z4 => K (.v (.one (.int .i64 z4))))
  | _ => none
def S176 {β : Type} (N : Nat) : Rv.Spec β := VS176 N (impl_Table_cube N)
def h176_0_0  (v0 : Int) (v1 : Int) (v2 : Int) (v3 : Int) (v4 : Int) (v5 : Int) (v6 : Bool) (v7 : Bool) : St := ⟨.v (.one .und) :: .v (.one (.int .i64 v0)) :: .v (.one (.int .i64 v1)) :: .v (.one (.ptr 0 0)) :: .v (.one .und) :: .v (.one .und) :: .v (.one .und) :: .v (.one (.ptr 1 0)) :: .v (.one .und) :: .v (.one .und) :: .v (.one .und) :: .v (.one (.int .i64 v2)) :: .v (.one (.int .i64 v3)) :: .v (.one .und) :: .v (.one .und) :: .v (.one .und) :: .v (.one .und) :: .v (.one .und) :: .v (.one .und) :: .v (.one .und) :: .v (.one .und) :: .v (.one .und) :: .v (.one .und) :: .v (.one .und) :: .v (.one .und) :: .v (.one .und) :: .v (.one .und) :: .v (.one .und) :: .v (.one .und) :: .v (.one .und) :: .v (.one .und) :: .v (.one .und) :: .v (.one .und) :: .v (.one .und) :: .v (.one .und) :: [], [.cells 24 [.int .i64 v4, .int .i64 v5], .cells 192 [.bool v6, .bool v7]]⟩
def x176_0_0_k0  (y0 : Bool) (y1 : Bool) : St := ⟨.v (.one .und) :: .v (.one .und) :: .v (.one .und) :: .v (.one .und) :: .v (.one .und) :: .v (.one .und) :: .v (.one .und) :: .v (.one (.ptr 0 0)) :: .v (.one .und) :: .v (.one .und) :: .v (.one .und) :: .v (.one .und) :: .v (.one .und) :: .v (.one .und) :: .v (.one .und) :: .v (.one .und) :: .v (.one .und) :: .v (.one .und) :: .v (.one .und) :: .v (.one .und) :: .v (.one .und) :: .v (.one .und) :: .v (.one .und) :: .v (.one .und) :: .v (.one .und) :: .v (.one .und) :: .v (.one .und) :: .v (.one .und) :: .v (.one .und) :: .v (.one .und) :: .v (.one .und) :: .v (.one .und) :: .v (.one .und) :: .v (.one .und) :: .v (.one .und) :: [], [.cells 192 [.bool y0, .bool y1]]⟩
theorem fl176_0_0 (s : St) : refSt (h176_0_0 0 0 0 0 0 0 false false) s = h176_0_0 (intS (oneA (vT (nx tund s.tmps 1)))) (intS (oneA (vT (nx tund s.tmps 2)))) (intS (oneA (vT (nx tund s.tmps 11)))) (intS (oneA (vT (nx tund s.tmps 12)))) (intS (nx .und (cellsB (nx .dead s.blks 0)) 0)) (intS (nx .und (cellsB (nx .dead s.blks 0)) 1)) (boolS (nx .und (cellsB (nx .dead s.blks 1)) 0)) (boolS (nx .und (cellsB (nx .dead s.blks 1)) 1)) := by kernel_rfl
def VLS176_0 {β : Type} (N : Nat) (q_impl_Table_cube_l0 : Nat → Int → Int → Int → Int → Int → Int → Bool → Bool → (Bool → Bool → Option β) → Option β) : LSpec β := fun s K => cond (shpSt (h176_0_0 0 0 0 0 0 0 false false) s) ((fun (v0 : Int) (v1 : Int) (v2 : Int) (v3 : Int) (v4 : Int) (v5 : Int) (v6 : Bool) (v7 : Bool) => q_impl_Table_cube_l0  N v0 v1 v2 v3 v4 v5 v6 v7 (fun y0 y1 => K (.exit 0) (x176_0_0_k0  y0 y1))) (intS (oneA (vT (nx tund s.tmps 1)))) (intS (oneA (vT (nx tund s.tmps 2)))) (intS (oneA (vT (nx tund s.tmps 11)))) (intS (oneA (vT (nx tund s.tmps 12)))) (intS (nx .und (cellsB (nx .dead s.blks 0)) 0)) (intS (nx .und (cellsB (nx .dead s.blks 0)) 1)) (boolS (nx .und (cellsB (nx .dead s.blks 1)) 0)) (boolS (nx .und (cellsB (nx .dead s.blks 1)) 1))) (none)
def LS176_0 {β : Type} (N : Nat) : LSpec β := VLS176_0 N (impl_Table_cube_l0 N)
def VE176 {β : Type} (N : Nat) (q_impl_Table_size : (a0 : Int) → (a1 : Int) → (k : Int → Option β) → Option β) (q_impl_Table_at : (a0 : Int) → (a1 : Int) → (a2 : Int) → (k : Int → Option β) → Option β) (q_impl_Table_cube_l0 : Nat → Int → Int → Int → Int → Int → Int → Bool → Bool → (Bool → Bool → Option β) → Option β) : Env β := ⟨[(125, VS125 N q_impl_Table_size), (128, VS128 N q_impl_Table_at)], [], [(0, VLS176_0 N q_impl_Table_cube_l0)], [], ⟨[], [], []⟩⟩
def E176 {β : Type} (N : Nat) : Env β := VE176 N (impl_Table_size N) (impl_Table_at N) (impl_Table_cube_l0 N)
def BV_impl_Table_cube_l0b {β : Type} (N : Nat) (q_impl_Table_at : (a0 : Int) → (a1 : Int) → (a2 : Int) → (k : Int → Option β) → Option β)  (v0 : Int) (v1 : Int) (v2 : Int) (v3 : Int) (v4 : Int) (v5 : Int) (v6 : Bool) (v7 : Bool) (rec_ : Int → Int → Int → Int → Int → Int → Bool → Bool → Option β) (k0 : Bool → Bool → Option β) : Option β :=
(cond ((decide (v3 < v2)))
((cond (((bits .and .i64 v3 v0) == v1))
(q_impl_Table_at v4 v5 v3 fun r6 =>
(gd ((decide (0 ≤ r6)))
((gd ((decide (r6 < 2)))
((cond ((r6 == 0))
(rec_ v0 v1 v2 ((w64 (v3 + 1))) v4 v5 true v7)
(rec_ v0 v1 v2 ((w64 (v3 + 1))) v4 v5 v6 true)))))))
(rec_ v0 v1 v2 ((w64 (v3 + 1))) v4 v5 v6 v7)))
(k0 v6 v7))
theorem t_impl_Table_cube_l0b {β : Type} (N : Nat)  (v0 : Int) (v1 : Int) (v2 : Int) (v3 : Int) (v4 : Int) (v5 : Int) (v6 : Bool) (v7 : Bool) (rec_ : Int → Int → Int → Int → Int → Int → Bool → Bool → Option β) (k0 : Bool → Bool → Option β) : impl_Table_cube_l0b N v0 v1 v2 v3 v4 v5 v6 v7 rec_ k0 = BV_impl_Table_cube_l0b N (impl_Table_at N) v0 v1 v2 v3 v4 v5 v6 v7 rec_ k0 := by
  unfold impl_Table_cube_l0b BV_impl_Table_cube_l0b
  rfl
theorem vst176_0_0 {β : Type} (N : Nat) (q_impl_Table_size : (a0 : Int) → (a1 : Int) → (k : Int → Option β) → Option β) (q_impl_Table_at : (a0 : Int) → (a1 : Int) → (a2 : Int) → (k : Int → Option β) → Option β) (q_impl_Table_cube_l0 : Nat → Int → Int → Int → Int → Int → Int → Bool → Bool → (Bool → Bool → Option β) → Option β)  (v0 : Int) (v1 : Int) (v2 : Int) (v3 : Int) (v4 : Int) (v5 : Int) (v6 : Bool) (v7 : Bool) (rec_ : St → Option β) (K : Exit → St → Option β) :
    ev lay (VE176 N q_impl_Table_size q_impl_Table_at q_impl_Table_cube_l0) (retMask Tryd.f176) (lp Tryd.f176 0).body (lp Tryd.f176 0).ex ((lp Tryd.f176 0).lv (retMask Tryd.f176)) (h176_0_0  v0 v1 v2 v3 v4 v5 v6 v7) (nextR (fun s' => rec_ (s'.tidy ((lp Tryd.f176 0).lv (retMask Tryd.f176)))) K) = BV_impl_Table_cube_l0b N q_impl_Table_at  v0 v1 v2 v3 v4 v5 v6 v7 (fun v0 v1 v2 v3 v4 v5 v6 v7 => rec_ (h176_0_0  v0 v1 v2 v3 v4 v5 v6 v7)) (fun y0 y1 => K (.exit 0) (x176_0_0_k0  y0 y1)) := by kernel_rfl
theorem st176_0_0 {β : Type} (N : Nat)  (v0 : Int) (v1 : Int) (v2 : Int) (v3 : Int) (v4 : Int) (v5 : Int) (v6 : Bool) (v7 : Bool) (rec_ : St → Option β) (K : Exit → St → Option β) :
    ev lay (E176 N) (retMask Tryd.f176) (lp Tryd.f176 0).body (lp Tryd.f176 0).ex ((lp Tryd.f176 0).lv (retMask Tryd.f176)) (h176_0_0  v0 v1 v2 v3 v4 v5 v6 v7) (nextR (fun s' => rec_ (s'.tidy ((lp Tryd.f176 0).lv (retMask Tryd.f176)))) K) = impl_Table_cube_l0b N  v0 v1 v2 v3 v4 v5 v6 v7 (fun v0 v1 v2 v3 v4 v5 v6 v7 => rec_ (h176_0_0  v0 v1 v2 v3 v4 v5 v6 v7)) (fun y0 y1 => K (.exit 0) (x176_0_0_k0  y0 y1)) := (vst176_0_0 N (impl_Table_size N) (impl_Table_at N) (impl_Table_cube_l0 N) v0 v1 v2 v3 v4 v5 v6 v7 rec_ K).trans (t_impl_Table_cube_l0b N  v0 v1 v2 v3 v4 v5 v6 v7 (fun v0 v1 v2 v3 v4 v5 v6 v7 => rec_ (h176_0_0  v0 v1 v2 v3 v4 v5 v6 v7)) (fun y0 y1 => K (.exit 0) (x176_0_0_k0  y0 y1))).symm
theorem ro176_0_0 {β : Type} (N : Nat)  (K : Exit → St → Option β) : ∀ (F : Nat) (v0 : Int) (v1 : Int) (v2 : Int) (v3 : Int) (v4 : Int) (v5 : Int) (v6 : Bool) (v7 : Bool), (lp Tryd.f176 0).rounds lay (E176 N) (retMask Tryd.f176) F (h176_0_0  v0 v1 v2 v3 v4 v5 v6 v7) K = impl_Table_cube_l0 N  F v0 v1 v2 v3 v4 v5 v6 v7 (fun y0 y1 => K (.exit 0) (x176_0_0_k0  y0 y1)) := by
  intro F
  induction F with
  | zero => intros; rfl
  | succ F ih =>
    intros
    rw [rounds_next]
    refine (st176_0_0 N  _ _ _ _ _ _ _ _ (fun s => (lp Tryd.f176 0).rounds lay (E176 N) (retMask Tryd.f176) F s K) K).trans ?_
    simp only [ih]
    rfl
theorem lk176_0 {β : Type} (N : Nat) : lookL (E176 (β := β) N).loops (lp Tryd.f176 0).id = LS176_0 N := by kernel_rfl
theorem rk176_0 {β : Type} (N : Nat) : RoundsOK lay (E176 (β := β) N) (retMask Tryd.f176) (lp Tryd.f176 0) := by
  intro s K r h
  rw [lk176_0] at h
  unfold LS176_0 VLS176_0 at h
  cases hb : shpSt (h176_0_0 0 0 0 0 0 0 false false) s with
  | true =>
    rw [hb, cond_true] at h
    exact ⟨N, by rw [← shpSt_ref hb, fl176_0_0 s]; exact (ro176_0_0 N  K N (intS (oneA (vT (nx tund s.tmps 1)))) (intS (oneA (vT (nx tund s.tmps 2)))) (intS (oneA (vT (nx tund s.tmps 11)))) (intS (oneA (vT (nx tund s.tmps 12)))) (intS (nx .und (cellsB (nx .dead s.blks 0)) 0)) (intS (nx .und (cellsB (nx .dead s.blks 0)) 1)) (boolS (nx .und (cellsB (nx .dead s.blks 1)) 0)) (boolS (nx .und (cellsB (nx .dead s.blks 1)) 1))).trans h⟩
  | false =>
  rw [hb, cond_false] at h
  clear hb
  cases h
def BV_impl_Table_cube {β : Type} (N : Nat) (q_impl_Table_size : (a0 : Int) → (a1 : Int) → (k : Int → Option β) → Option β) (q_impl_Table_cube_l0 : Nat → Int → Int → Int → Int → Int → Int → Bool → Bool → (Bool → Bool → Option β) → Option β) (a0 : Int) (a1 : Int) (a2 : Int) (a3 : Int) (k : Int → Option β) : Option β :=
q_impl_Table_size a0 a1 fun r5 =>
q_impl_Table_cube_l0  N a2 a3 r5 0 a0 a1 false false (fun e7_0 e7_1 =>
(cond e7_0
((cond e7_1
(k 2)
((cond e7_1
(k 1)
(k 0)))))
((cond e7_1
(k 1)
(k 0)))))
theorem t_impl_Table_cube {β : Type} (N : Nat) (a0 : Int) (a1 : Int) (a2 : Int) (a3 : Int) (k : Int → Option β) : impl_Table_cube N a0 a1 a2 a3 k = BV_impl_Table_cube N (impl_Table_size N) (impl_Table_cube_l0 N) a0 a1 a2 a3 k := by
  unfold impl_Table_cube BV_impl_Table_cube
  rfl
theorem ve176_0 {β : Type} (N : Nat) (q_impl_Table_size : (a0 : Int) → (a1 : Int) → (k : Int → Option β) → Option β) (q_impl_Table_at : (a0 : Int) → (a1 : Int) → (a2 : Int) → (k : Int → Option β) → Option β) (q_impl_Table_cube_l0 : Nat → Int → Int → Int → Int → Int → Int → Bool → Bool → (Bool → Bool → Option β) → Option β)  (a0 : Int) (a1 : Int) (a2 : Int) (a3 : Int) (K : TV → Option β) : evFn lay (VE176 N q_impl_Table_size q_impl_Table_at q_impl_Table_cube_l0) Tryd.f176 [.v (.agg [.int .i64 a0, .int .i64 a1]), .v (.one (.int .i64 a2)), .v (.one (.int .i64 a3))] K = BV_impl_Table_cube N q_impl_Table_size q_impl_Table_cube_l0 a0 a1 a2 a3 (fun z4 => K (.v (.one (.int .i64 z4)))) := by kernel_rfl
theorem e176_0 {β : Type} (N : Nat)  (a0 : Int) (a1 : Int) (a2 : Int) (a3 : Int) (K : TV → Option β) : evFn lay (E176 N) Tryd.f176 [.v (.agg [.int .i64 a0, .int .i64 a1]), .v (.one (.int .i64 a2)), .v (.one (.int .i64 a3))] K = impl_Table_cube N a0 a1 a2 a3 (fun z4 => K (.v (.one (.int .i64 z4)))) := (ve176_0 N (impl_Table_size N) (impl_Table_at N) (impl_Table_cube_l0 N) a0 a1 a2 a3 K).trans (t_impl_Table_cube N a0 a1 a2 a3 (fun z4 => K (.v (.one (.int .i64 z4))))).symm
theorem o176 {β : Type} (N : Nat) : SpecOK (β := β) inv Tryd.prog 176 (S176 N) := by
  refine spec_of lay_ok mixed (E := E176 N) (specs_loops (specs_cons (o125 N) (specs_cons (o128 N) specs_nil))) muts_nil gs_nil Tryd.func176 (by kernel_rfl) 1 (by kernel_rfl) ⟨trivial, rk176_0 N⟩ fun args K r h => ?_
  unfold S176 VS176 at h
  split at h
  · exact (e176_0 N _ _ _ _ _).trans h
  · cases h
def VS64 {β : Type} (N : Nat) (q_impl_FormatInt : (a0 : Int) → (k : ByteArray → Option β) → Option β) : Rv.Spec β := fun args K => match args with
  | [.v (.one (.int .i64 a0))] => q_impl_FormatInt a0 (fun z1 => K (.v (.one (.str z1))))
  | _ => none
def S64 {β : Type} (N : Nat) : Rv.Spec β := VS64 N (impl_FormatInt N)
def VE64 {β : Type} (N : Nat) : Env β := ⟨[(130, S130 N)], [], [], [], ⟨[], [], []⟩⟩
def E64 {β : Type} (N : Nat) : Env β := VE64 N
def BV_impl_FormatInt {β : Type} (N : Nat) (a0 : Int) (k : ByteArray → Option β) : Option β :=
strconv_Itoa N a0 fun r2 =>
k r2
theorem t_impl_FormatInt {β : Type} (N : Nat) (a0 : Int) (k : ByteArray → Option β) : impl_FormatInt N a0 k = BV_impl_FormatInt N a0 k := by
  unfold impl_FormatInt BV_impl_FormatInt
  rfl
theorem ve64_0 {β : Type} (N : Nat)  (a0 : Int) (K : TV → Option β) : evFn lay (VE64 N) Tryd.f64 [.v (.one (.int .i64 a0))] K = BV_impl_FormatInt N a0 (fun z1 => K (.v (.one (.str z1)))) := by kernel_rfl
theorem e64_0 {β : Type} (N : Nat)  (a0 : Int) (K : TV → Option β) : evFn lay (E64 N) Tryd.f64 [.v (.one (.int .i64 a0))] K = impl_FormatInt N a0 (fun z1 => K (.v (.one (.str z1)))) := (ve64_0 N a0 K).trans (t_impl_FormatInt N a0 (fun z1 => K (.v (.one (.str z1))))).symm
theorem o64 {β : Type} (N : Nat) : SpecOK (β := β) inv Tryd.prog 64 (S64 N) := by
  refine spec_of lay_ok mixed (E := E64 N) (specs_loops (specs_cons (o130 N) specs_nil)) muts_nil gs_nil Tryd.func64 (by kernel_rfl) 0 (by kernel_rfl) trivial fun args K r h => ?_
  unfold S64 VS64 at h
  split at h
  · exact (e64_0 N _ _).trans h
  · cases h
def VS177 {β : Type} (N : Nat) (q_impl_known_with : (a0 : Int) → (a1 : Int) → (a2 : Int) → (a3 : Int) → (k : Int → Int → Option β) → Option β) : Rv.Spec β := fun args K => match args with
  | [.v (.agg [.int .i64 a0, .int .i64 a1]), .v (.one (.int .i64 a2)), .v (.one (.int .i64 a3))] => q_impl_known_with a0 a1 a2 a3 (fun z4 z5 => K (.v (.agg [.int .i64 z4, .int .i64 z5])))
  | _ => none
def S177 {β : Type} (N : Nat) : Rv.Spec β := VS177 N (impl_known_with N)
def VE177 {β : Type} (N : Nat) : Env β := ⟨[], [], [], [], ⟨[], [], []⟩⟩
def E177 {β : Type} (N : Nat) : Env β := VE177 N
def BV_impl_known_with {β : Type} (N : Nat) (a0 : Int) (a1 : Int) (a2 : Int) (a3 : Int) (k : Int → Int → Option β) : Option β :=
(gd ((decide (0 ≤ a2)))
((gd ((decide (0 ≤ a2)))
(k ((bits .or .i64 a0 (shlI .i64 1 a2))) ((bits .or .i64 a1 (shlI .i64 a3 a2)))))))
theorem t_impl_known_with {β : Type} (N : Nat) (a0 : Int) (a1 : Int) (a2 : Int) (a3 : Int) (k : Int → Int → Option β) : impl_known_with N a0 a1 a2 a3 k = BV_impl_known_with N a0 a1 a2 a3 k := by
  unfold impl_known_with BV_impl_known_with
  rfl
theorem ve177_0 {β : Type} (N : Nat)  (a0 : Int) (a1 : Int) (a2 : Int) (a3 : Int) (K : TV → Option β) : evFn lay (VE177 N) Tryd.f177 [.v (.agg [.int .i64 a0, .int .i64 a1]), .v (.one (.int .i64 a2)), .v (.one (.int .i64 a3))] K = BV_impl_known_with N a0 a1 a2 a3 (fun z4 z5 => K (.v (.agg [.int .i64 z4, .int .i64 z5]))) := by kernel_rfl
theorem e177_0 {β : Type} (N : Nat)  (a0 : Int) (a1 : Int) (a2 : Int) (a3 : Int) (K : TV → Option β) : evFn lay (E177 N) Tryd.f177 [.v (.agg [.int .i64 a0, .int .i64 a1]), .v (.one (.int .i64 a2)), .v (.one (.int .i64 a3))] K = impl_known_with N a0 a1 a2 a3 (fun z4 z5 => K (.v (.agg [.int .i64 z4, .int .i64 z5]))) := (ve177_0 N a0 a1 a2 a3 K).trans (t_impl_known_with N a0 a1 a2 a3 (fun z4 z5 => K (.v (.agg [.int .i64 z4, .int .i64 z5])))).symm
theorem o177 {β : Type} (N : Nat) : SpecOK (β := β) inv Tryd.prog 177 (S177 N) := by
  refine spec_of lay_ok mixed (E := E177 N) (specs_loops specs_nil) muts_nil gs_nil Tryd.func177 (by kernel_rfl) 0 (by kernel_rfl) trivial fun args K r h => ?_
  unfold S177 VS177 at h
  split at h
  · exact (e177_0 N _ _ _ _ _).trans h
  · cases h
def VSF214 {β : Type} (N : Nat) (q_impl_asker_left_g0_f : Nat → Int → Int → Int → Int → Mp → Mp → (Int → Int → Int → Mp → Mp → Option β) → Option β) (G : Nat) : GSpec β := fun args bl K => match args, bl with
  | [.v (.one (.ptr 0 0)), .v (.agg [.int .i64 a0, .int .i64 a1])], [.pcells 0 156 [.int .i64 a2, .int .i64 a3, .mp 1, .mp 2], .pmp 1 ⟨true, false⟩ a4, .pmp 2 ⟨true, false⟩ a5] => q_impl_asker_left_g0_f G a0 a1 a2 a3 a4 a5 (fun y0 y1 y2 y3 y4 => K (.v (.one (.int .i64 y0))) [.pcells 0 156 [.int .i64 y1, .int .i64 y2, .mp 1, .mp 2], .pmp 1 ⟨true, false⟩ y3, .pmp 2 ⟨true, false⟩ y4])
  | _, _ => none
def SF214 {β : Type} (N : Nat) (G : Nat) : GSpec β := VSF214 N (impl_asker_left_g0_f N) G
def VS214 {β : Type} (N : Nat) (q_impl_asker_left_g0_f : Nat → Int → Int → Int → Int → Mp → Mp → (Int → Int → Int → Mp → Mp → Option β) → Option β) : GSpec β := VSF214 N q_impl_asker_left_g0_f N
def S214 {β : Type} (N : Nat) : GSpec β := SF214 N N
def h214_0_0  (v0 : Int) (v1 : Int) (v2 : Int) (v3 : Int) (v4 : Int) (v5 : Mp) (v6 : Mp) (v7 : Int) (v8 : Int) : St := ⟨.v (.one (.ptr 0 0)) :: .v (.one .und) :: .v (.one .und) :: .v (.one (.ptr 3 0)) :: .v (.one .und) :: .v (.one .und) :: .v (.one .und) :: .v (.one (.int .i64 v0)) :: .v (.one .und) :: .v (.one .und) :: .v (.one .und) :: .v (.one .und) :: .v (.one .und) :: .v (.one .und) :: .v (.one .und) :: .v (.one .und) :: .v (.one .und) :: .v (.one .und) :: .v (.one .und) :: .v (.one .und) :: .v (.one .und) :: .v (.one .und) :: .v (.one .und) :: .v (.one .und) :: .v (.one .und) :: .v (.one .und) :: .v (.one .und) :: .v (.one .und) :: .v (.one .und) :: .v (.one .und) :: .v (.one .und) :: .v (.one .und) :: .v (.one .und) :: .v (.one .und) :: .v (.one .und) :: .v (.one .und) :: .v (.one .und) :: .v (.one .und) :: .v (.one .und) :: .v (.one (.int .i64 v1)) :: .v (.one (.int .i64 v2)) :: .v (.one .und) :: .v (.one .und) :: .v (.one .und) :: .v (.one .und) :: .v (.one .und) :: .v (.one .und) :: .v (.one .und) :: .v (.one .und) :: .v (.one .und) :: .v (.one .und) :: .v (.one .und) :: .v (.one .und) :: .v (.one .und) :: .v (.one .und) :: .v (.one .und) :: .v (.one .und) :: .v (.one .und) :: .v (.one .und) :: .v (.one .und) :: .v (.one .und) :: .v (.one .und) :: .v (.one .und) :: .v (.one .und) :: .v (.one .und) :: .v (.one .und) :: .v (.one .und) :: .v (.one .und) :: .v (.one .und) :: .v (.one .und) :: .v (.one .und) :: [], [.pcells 0 156 [.int .i64 v3, .int .i64 v4, .mp 1, .mp 2], .pmp 1 ⟨true, false⟩ v5, .pmp 2 ⟨true, false⟩ v6, .cells 94 [.int .i64 v7, .int .i64 v8]]⟩
def x214_0_0_k0  (y0 : Int) (y1 : Int) (y2 : Int) (y3 : Mp) (y4 : Mp) (y5 : Int) (y6 : Int) : St := ⟨.v (.one (.ptr 0 0)) :: .v (.one .und) :: .v (.one .und) :: .v (.one (.ptr 3 0)) :: .v (.one .und) :: .v (.one .und) :: .v (.one .und) :: .v (.one (.int .i64 y0)) :: .v (.one .und) :: .v (.one .und) :: .v (.one .und) :: .v (.one .und) :: .v (.one .und) :: .v (.one .und) :: .v (.one .und) :: .v (.one .und) :: .v (.one .und) :: .v (.one .und) :: .v (.one .und) :: .v (.one .und) :: .v (.one .und) :: .v (.one .und) :: .v (.one .und) :: .v (.one .und) :: .v (.one .und) :: .v (.one .und) :: .v (.one .und) :: .v (.one .und) :: .v (.one .und) :: .v (.one .und) :: .v (.one .und) :: .v (.one .und) :: .v (.one .und) :: .v (.one .und) :: .v (.one .und) :: .v (.one .und) :: .v (.one .und) :: .v (.one .und) :: .v (.one .und) :: .v (.one .und) :: .v (.one .und) :: .v (.one .und) :: .v (.one .und) :: .v (.one .und) :: .v (.one .und) :: .v (.one .und) :: .v (.one .und) :: .v (.one .und) :: .v (.one .und) :: .v (.one .und) :: .v (.one .und) :: .v (.one .und) :: .v (.one .und) :: .v (.one .und) :: .v (.one .und) :: .v (.one .und) :: .v (.one .und) :: .v (.one .und) :: .v (.one .und) :: .v (.one .und) :: .v (.one .und) :: .v (.one .und) :: .v (.one .und) :: .v (.one .und) :: .v (.one .und) :: .v (.one .und) :: .v (.one .und) :: .v (.one .und) :: .v (.one .und) :: .v (.one .und) :: .v (.one .und) :: [], [.pcells 0 156 [.int .i64 y1, .int .i64 y2, .mp 1, .mp 2], .pmp 1 ⟨true, false⟩ y3, .pmp 2 ⟨true, false⟩ y4, .cells 94 [.int .i64 y5, .int .i64 y6]]⟩
theorem fl214_0_0 (s : St) : refSt (h214_0_0 0 0 0 0 0 [] [] 0 0) s = h214_0_0 (intS (oneA (vT (nx tund s.tmps 7)))) (intS (oneA (vT (nx tund s.tmps 39)))) (intS (oneA (vT (nx tund s.tmps 40)))) (intS (nx .und (cellsB (nx .dead s.blks 0)) 0)) (intS (nx .und (cellsB (nx .dead s.blks 0)) 1)) (mpB (nx .dead s.blks 1)) (mpB (nx .dead s.blks 2)) (intS (nx .und (cellsB (nx .dead s.blks 3)) 0)) (intS (nx .und (cellsB (nx .dead s.blks 3)) 1)) := by kernel_rfl
def VLS214_0 {β : Type} (N : Nat) (q_impl_asker_left_l0 : (self : Int → Int → Int → Int → Mp → Mp → (Int → Int → Int → Mp → Mp → Option β) → Option β) → Nat → Int → Int → Int → Int → Int → Mp → Mp → Int → Int → (Int → Int → Int → Mp → Mp → Int → Int → Option β) → Option β) (q_impl_asker_left_g0_f : Nat → Int → Int → Int → Int → Mp → Mp → (Int → Int → Int → Mp → Mp → Option β) → Option β) (G : Nat) : LSpec β := fun s K => cond (shpSt (h214_0_0 0 0 0 0 0 [] [] 0 0) s) ((fun (v0 : Int) (v1 : Int) (v2 : Int) (v3 : Int) (v4 : Int) (v5 : Mp) (v6 : Mp) (v7 : Int) (v8 : Int) => q_impl_asker_left_l0 (q_impl_asker_left_g0_f G)  N v0 v1 v2 v3 v4 v5 v6 v7 v8 (fun y0 y1 y2 y3 y4 y5 y6 => K (.exit 0) (x214_0_0_k0  y0 y1 y2 y3 y4 y5 y6))) (intS (oneA (vT (nx tund s.tmps 7)))) (intS (oneA (vT (nx tund s.tmps 39)))) (intS (oneA (vT (nx tund s.tmps 40)))) (intS (nx .und (cellsB (nx .dead s.blks 0)) 0)) (intS (nx .und (cellsB (nx .dead s.blks 0)) 1)) (mpB (nx .dead s.blks 1)) (mpB (nx .dead s.blks 2)) (intS (nx .und (cellsB (nx .dead s.blks 3)) 0)) (intS (nx .und (cellsB (nx .dead s.blks 3)) 1))) (none)
def LS214_0 {β : Type} (N : Nat) (G : Nat) : LSpec β := VLS214_0 N (impl_asker_left_l0 N) (impl_asker_left_g0_f N) G
def VE214 {β : Type} (N : Nat) (q_impl_Table_cube : (a0 : Int) → (a1 : Int) → (a2 : Int) → (a3 : Int) → (k : Int → Option β) → Option β) (q_impl_known_with : (a0 : Int) → (a1 : Int) → (a2 : Int) → (a3 : Int) → (k : Int → Int → Option β) → Option β) (q_impl_asker_left_l0 : (self : Int → Int → Int → Int → Mp → Mp → (Int → Int → Int → Mp → Mp → Option β) → Option β) → Nat → Int → Int → Int → Int → Int → Mp → Mp → Int → Int → (Int → Int → Int → Mp → Mp → Int → Int → Option β) → Option β) (q_impl_asker_left_g0_f : Nat → Int → Int → Int → Int → Mp → Mp → (Int → Int → Int → Mp → Mp → Option β) → Option β) (G : Nat) : Env β := ⟨[(176, VS176 N q_impl_Table_cube), (177, VS177 N q_impl_known_with)], [], [(0, VLS214_0 N q_impl_asker_left_l0 q_impl_asker_left_g0_f G)], [(214, VSF214 N q_impl_asker_left_g0_f G)], ⟨[], [], []⟩⟩
def E214 {β : Type} (N : Nat) (G : Nat) : Env β := VE214 N (impl_Table_cube N) (impl_known_with N) (impl_asker_left_l0 N) (impl_asker_left_g0_f N) G
def BV_impl_asker_left_l0b {β : Type} (N : Nat) (q_impl_known_with : (a0 : Int) → (a1 : Int) → (a2 : Int) → (a3 : Int) → (k : Int → Int → Option β) → Option β) (self : Int → Int → Int → Int → Mp → Mp → (Int → Int → Int → Mp → Mp → Option β) → Option β)  (v0 : Int) (v1 : Int) (v2 : Int) (v3 : Int) (v4 : Int) (v5 : Mp) (v6 : Mp) (v7 : Int) (v8 : Int) (rec_ : Int → Int → Int → Int → Int → Mp → Mp → Int → Int → Option β) (k0 : Int → Int → Int → Mp → Mp → Int → Int → Option β) : Option β :=
(cond ((decide (v2 < v1)))
((gd ((decide (0 ≤ v2)))
((cond (((bits .and .i64 (shrI .i64 v7 v2) 1) == 0))
(q_impl_known_with v7 v8 v2 0 fun r7 r8 =>
self r7 r8 v3 v4 v5 v6 (fun r9_0 r9_1 r9_2 r9_3 r9_4 =>
q_impl_known_with v7 v8 v2 1 fun r10 r11 =>
self r10 r11 r9_1 r9_2 r9_3 r9_4 (fun r12_0 r12_1 r12_2 r12_3 r12_4 =>
rec_ ((mnI v0 (w64 (1 + (mxI r9_0 r12_0))))) v1 ((w64 (v2 + 1))) r12_1 r12_2 r12_3 r12_4 v7 v8)))
(rec_ v0 v1 ((w64 (v2 + 1))) v3 v4 v5 v6 v7 v8)))))
(k0 v0 v3 v4 v5 v6 v7 v8))
theorem t_impl_asker_left_l0b {β : Type} (N : Nat) (self : Int → Int → Int → Int → Mp → Mp → (Int → Int → Int → Mp → Mp → Option β) → Option β)  (v0 : Int) (v1 : Int) (v2 : Int) (v3 : Int) (v4 : Int) (v5 : Mp) (v6 : Mp) (v7 : Int) (v8 : Int) (rec_ : Int → Int → Int → Int → Int → Mp → Mp → Int → Int → Option β) (k0 : Int → Int → Int → Mp → Mp → Int → Int → Option β) : impl_asker_left_l0b N self v0 v1 v2 v3 v4 v5 v6 v7 v8 rec_ k0 = BV_impl_asker_left_l0b N (impl_known_with N) self v0 v1 v2 v3 v4 v5 v6 v7 v8 rec_ k0 := by
  unfold impl_asker_left_l0b BV_impl_asker_left_l0b
  rfl
theorem vst214_0_0 {β : Type} (N : Nat) (q_impl_Table_cube : (a0 : Int) → (a1 : Int) → (a2 : Int) → (a3 : Int) → (k : Int → Option β) → Option β) (q_impl_known_with : (a0 : Int) → (a1 : Int) → (a2 : Int) → (a3 : Int) → (k : Int → Int → Option β) → Option β) (q_impl_asker_left_l0 : (self : Int → Int → Int → Int → Mp → Mp → (Int → Int → Int → Mp → Mp → Option β) → Option β) → Nat → Int → Int → Int → Int → Int → Mp → Mp → Int → Int → (Int → Int → Int → Mp → Mp → Int → Int → Option β) → Option β) (q_impl_asker_left_g0_f : Nat → Int → Int → Int → Int → Mp → Mp → (Int → Int → Int → Mp → Mp → Option β) → Option β) (G : Nat)  (v0 : Int) (v1 : Int) (v2 : Int) (v3 : Int) (v4 : Int) (v5 : Mp) (v6 : Mp) (v7 : Int) (v8 : Int) (rec_ : St → Option β) (K : Exit → St → Option β) :
    ev lay (VE214 N q_impl_Table_cube q_impl_known_with q_impl_asker_left_l0 q_impl_asker_left_g0_f G) (retMask Tryd.f214) (lp Tryd.f214 0).body (lp Tryd.f214 0).ex ((lp Tryd.f214 0).lv (retMask Tryd.f214)) (h214_0_0  v0 v1 v2 v3 v4 v5 v6 v7 v8) (nextR (fun s' => rec_ (s'.tidy ((lp Tryd.f214 0).lv (retMask Tryd.f214)))) K) = BV_impl_asker_left_l0b N q_impl_known_with (q_impl_asker_left_g0_f G)  v0 v1 v2 v3 v4 v5 v6 v7 v8 (fun v0 v1 v2 v3 v4 v5 v6 v7 v8 => rec_ (h214_0_0  v0 v1 v2 v3 v4 v5 v6 v7 v8)) (fun y0 y1 y2 y3 y4 y5 y6 => K (.exit 0) (x214_0_0_k0  y0 y1 y2 y3 y4 y5 y6)) := by kernel_rfl
theorem st214_0_0 {β : Type} (N : Nat) (G : Nat)  (v0 : Int) (v1 : Int) (v2 : Int) (v3 : Int) (v4 : Int) (v5 : Mp) (v6 : Mp) (v7 : Int) (v8 : Int) (rec_ : St → Option β) (K : Exit → St → Option β) :
    ev lay (E214 N G) (retMask Tryd.f214) (lp Tryd.f214 0).body (lp Tryd.f214 0).ex ((lp Tryd.f214 0).lv (retMask Tryd.f214)) (h214_0_0  v0 v1 v2 v3 v4 v5 v6 v7 v8) (nextR (fun s' => rec_ (s'.tidy ((lp Tryd.f214 0).lv (retMask Tryd.f214)))) K) = impl_asker_left_l0b N (impl_asker_left_g0_f N G)  v0 v1 v2 v3 v4 v5 v6 v7 v8 (fun v0 v1 v2 v3 v4 v5 v6 v7 v8 => rec_ (h214_0_0  v0 v1 v2 v3 v4 v5 v6 v7 v8)) (fun y0 y1 y2 y3 y4 y5 y6 => K (.exit 0) (x214_0_0_k0  y0 y1 y2 y3 y4 y5 y6)) := (vst214_0_0 N (impl_Table_cube N) (impl_known_with N) (impl_asker_left_l0 N) (impl_asker_left_g0_f N) G v0 v1 v2 v3 v4 v5 v6 v7 v8 rec_ K).trans (t_impl_asker_left_l0b N (impl_asker_left_g0_f N G)  v0 v1 v2 v3 v4 v5 v6 v7 v8 (fun v0 v1 v2 v3 v4 v5 v6 v7 v8 => rec_ (h214_0_0  v0 v1 v2 v3 v4 v5 v6 v7 v8)) (fun y0 y1 y2 y3 y4 y5 y6 => K (.exit 0) (x214_0_0_k0  y0 y1 y2 y3 y4 y5 y6))).symm
theorem ro214_0_0 {β : Type} (N : Nat) (G : Nat)  (K : Exit → St → Option β) : ∀ (F : Nat) (v0 : Int) (v1 : Int) (v2 : Int) (v3 : Int) (v4 : Int) (v5 : Mp) (v6 : Mp) (v7 : Int) (v8 : Int), (lp Tryd.f214 0).rounds lay (E214 N G) (retMask Tryd.f214) F (h214_0_0  v0 v1 v2 v3 v4 v5 v6 v7 v8) K = impl_asker_left_l0 N (impl_asker_left_g0_f N G)  F v0 v1 v2 v3 v4 v5 v6 v7 v8 (fun y0 y1 y2 y3 y4 y5 y6 => K (.exit 0) (x214_0_0_k0  y0 y1 y2 y3 y4 y5 y6)) := by
  intro F
  induction F with
  | zero => intros; rfl
  | succ F ih =>
    intros
    rw [rounds_next]
    refine (st214_0_0 N G  _ _ _ _ _ _ _ _ _ (fun s => (lp Tryd.f214 0).rounds lay (E214 N G) (retMask Tryd.f214) F s K) K).trans ?_
    simp only [ih]
    rfl
theorem lk214_0 {β : Type} (N : Nat) (G : Nat) : lookL (E214 (β := β) N G).loops (lp Tryd.f214 0).id = LS214_0 N G := by kernel_rfl
theorem rk214_0 {β : Type} (N : Nat) (G : Nat) : RoundsOK lay (E214 (β := β) N G) (retMask Tryd.f214) (lp Tryd.f214 0) := by
  intro s K r h
  rw [lk214_0] at h
  unfold LS214_0 VLS214_0 at h
  cases hb : shpSt (h214_0_0 0 0 0 0 0 [] [] 0 0) s with
  | true =>
    rw [hb, cond_true] at h
    exact ⟨N, by rw [← shpSt_ref hb, fl214_0_0 s]; exact (ro214_0_0 N G  K N (intS (oneA (vT (nx tund s.tmps 7)))) (intS (oneA (vT (nx tund s.tmps 39)))) (intS (oneA (vT (nx tund s.tmps 40)))) (intS (nx .und (cellsB (nx .dead s.blks 0)) 0)) (intS (nx .und (cellsB (nx .dead s.blks 0)) 1)) (mpB (nx .dead s.blks 1)) (mpB (nx .dead s.blks 2)) (intS (nx .und (cellsB (nx .dead s.blks 3)) 0)) (intS (nx .und (cellsB (nx .dead s.blks 3)) 1))).trans h⟩
  | false =>
  rw [hb, cond_false] at h
  clear hb
  cases h
def BV_impl_asker_left_g0_b {β : Type} (N : Nat) (q_impl_Table_cube : (a0 : Int) → (a1 : Int) → (a2 : Int) → (a3 : Int) → (k : Int → Option β) → Option β) (q_impl_asker_left_l0 : (self : Int → Int → Int → Int → Mp → Mp → (Int → Int → Int → Mp → Mp → Option β) → Option β) → Nat → Int → Int → Int → Int → Int → Mp → Mp → Int → Int → (Int → Int → Int → Mp → Mp → Int → Int → Option β) → Option β) (self : Int → Int → Int → Int → Mp → Mp → (Int → Int → Int → Mp → Mp → Option β) → Option β) (a0 : Int) (a1 : Int) (a2 : Int) (a3 : Int) (a4 : Mp) (a5 : Mp) (k0 : Int → Int → Int → Mp → Mp → Option β) : Option β :=
(cond ((hasM ⟨true, false⟩ a4 a0 a1))
(k0 ((getM ⟨true, false⟩ a4 a0 a1)) a2 a3 a4 a5)
(q_impl_Table_cube a2 a3 a0 a1 fun r6 =>
(cond ((r6 == 2))
(q_impl_asker_left_l0 self  N a2 a2 0 a2 a3 a4 a5 a0 a1 (fun e13_0 e13_1 e13_2 e13_3 e13_4 e13_5 e13_6 =>
k0 e13_0 e13_1 e13_2 ((putM ⟨true, false⟩ e13_3 e13_5 e13_6 e13_0)) e13_4))
(k0 0 a2 a3 ((putM ⟨true, false⟩ a4 a0 a1 0)) a5))))
theorem t_impl_asker_left_g0_b {β : Type} (N : Nat) (self : Int → Int → Int → Int → Mp → Mp → (Int → Int → Int → Mp → Mp → Option β) → Option β) (a0 : Int) (a1 : Int) (a2 : Int) (a3 : Int) (a4 : Mp) (a5 : Mp) (k0 : Int → Int → Int → Mp → Mp → Option β) : impl_asker_left_g0_b N self a0 a1 a2 a3 a4 a5 k0 = BV_impl_asker_left_g0_b N (impl_Table_cube N) (impl_asker_left_l0 N) self a0 a1 a2 a3 a4 a5 k0 := by
  unfold impl_asker_left_g0_b BV_impl_asker_left_g0_b
  rfl
theorem ve214_0 {β : Type} (N : Nat) (q_impl_Table_cube : (a0 : Int) → (a1 : Int) → (a2 : Int) → (a3 : Int) → (k : Int → Option β) → Option β) (q_impl_known_with : (a0 : Int) → (a1 : Int) → (a2 : Int) → (a3 : Int) → (k : Int → Int → Option β) → Option β) (q_impl_asker_left_l0 : (self : Int → Int → Int → Int → Mp → Mp → (Int → Int → Int → Mp → Mp → Option β) → Option β) → Nat → Int → Int → Int → Int → Int → Mp → Mp → Int → Int → (Int → Int → Int → Mp → Mp → Int → Int → Option β) → Option β) (q_impl_asker_left_g0_f : Nat → Int → Int → Int → Int → Mp → Mp → (Int → Int → Int → Mp → Mp → Option β) → Option β) (G : Nat) (a0 : Int) (a1 : Int) (a2 : Int) (a3 : Int) (a4 : Mp) (a5 : Mp) (K : TV → List Blk → Option β) : evFnG lay (VE214 N q_impl_Table_cube q_impl_known_with q_impl_asker_left_l0 q_impl_asker_left_g0_f G) Tryd.f214 [.v (.one (.ptr 0 0)), .v (.agg [.int .i64 a0, .int .i64 a1])] [.pcells 0 156 [.int .i64 a2, .int .i64 a3, .mp 1, .mp 2], .pmp 1 ⟨true, false⟩ a4, .pmp 2 ⟨true, false⟩ a5] K = BV_impl_asker_left_g0_b N q_impl_Table_cube q_impl_asker_left_l0 (q_impl_asker_left_g0_f G) a0 a1 a2 a3 a4 a5 (fun y0 y1 y2 y3 y4 => K (.v (.one (.int .i64 y0))) [.pcells 0 156 [.int .i64 y1, .int .i64 y2, .mp 1, .mp 2], .pmp 1 ⟨true, false⟩ y3, .pmp 2 ⟨true, false⟩ y4]) := by kernel_rfl
theorem e214_0 {β : Type} (N : Nat) (G : Nat) (a0 : Int) (a1 : Int) (a2 : Int) (a3 : Int) (a4 : Mp) (a5 : Mp) (K : TV → List Blk → Option β) : evFnG lay (E214 N G) Tryd.f214 [.v (.one (.ptr 0 0)), .v (.agg [.int .i64 a0, .int .i64 a1])] [.pcells 0 156 [.int .i64 a2, .int .i64 a3, .mp 1, .mp 2], .pmp 1 ⟨true, false⟩ a4, .pmp 2 ⟨true, false⟩ a5] K = impl_asker_left_g0_f N (G + 1) a0 a1 a2 a3 a4 a5 (fun y0 y1 y2 y3 y4 => K (.v (.one (.int .i64 y0))) [.pcells 0 156 [.int .i64 y1, .int .i64 y2, .mp 1, .mp 2], .pmp 1 ⟨true, false⟩ y3, .pmp 2 ⟨true, false⟩ y4]) := (ve214_0 N (impl_Table_cube N) (impl_known_with N) (impl_asker_left_l0 N) (impl_asker_left_g0_f N) G a0 a1 a2 a3 a4 a5 K).trans (t_impl_asker_left_g0_b N (impl_asker_left_g0_f N G) a0 a1 a2 a3 a4 a5 (fun y0 y1 y2 y3 y4 => K (.v (.one (.int .i64 y0))) [.pcells 0 156 [.int .i64 y1, .int .i64 y2, .mp 1, .mp 2], .pmp 1 ⟨true, false⟩ y3, .pmp 2 ⟨true, false⟩ y4])).symm
theorem z214 {β : Type} (N : Nat) : ∀ args bl K r, SF214 (β := β) N 0 args bl K = some r → (none : Option β) = some r := by
  intro args bl K r h
  unfold SF214 VSF214 at h
  split at h <;> exact h
theorem of214 {β : Type} (N : Nat) : ∀ G, GOK (β := β) inv Tryd.prog 214 (SF214 N G) := by
  intro G
  induction G with
  | zero => exact g_zero Tryd.func214 (by kernel_rfl) (z214 N)
  | succ G ih =>
    refine g_of lay_ok mixed (E := E214 N G) (specs_loops (specs_cons (o176 N) (specs_cons (o177 N) specs_nil))) muts_nil (gs_cons ih gs_nil) Tryd.func214 (by kernel_rfl) 1 (by kernel_rfl) ⟨trivial, rk214_0 N G⟩ fun args bl K r h => ?_
    unfold SF214 VSF214 at h
    split at h
    · exact (e214_0 N G _ _ _ _ _ _ _).trans h
    · cases h
theorem o214 {β : Type} (N : Nat) : GOK (β := β) inv Tryd.prog 214 (S214 N) := of214 N N
end Go.Proofs.YtfdggelojmofmaaDoor
