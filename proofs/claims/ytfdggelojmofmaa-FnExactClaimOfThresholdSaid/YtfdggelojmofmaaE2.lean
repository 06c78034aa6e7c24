/- The functions that the claims reach answer as their texts do. -/
import Derived.Test.YtfdggelojmofmaaE1
namespace Go.Proofs.Ytfdggelojmofmaa
open Go.Rv
set_option maxRecDepth 100000
set_option maxHeartbeats 2000000
set_option linter.unusedVariables false
def VS97 {β : Type} (N : Nat) (q_impl_Table_at : (a0 : Int) → (a1 : Int) → (a2 : Int) → (k : Int → Option β) → Option β) : Rv.Spec β := fun args K => match args with
  | [.v (.agg [.int .i64 a0, .int .i64 a1]), .v (.one (.int .i64 a2))] => q_impl_Table_at a0 a1 a2 (fun z3 => K (.v (.one (.int .i64 z3))))
  | _ => none
def S97 {β : Type} (N : Nat) : Rv.Spec β := VS97 N (impl_Table_at N)
def VE97 {β : Type} (N : Nat) : Env β := ⟨[], [], [], [], ⟨[], [], []⟩⟩
def E97 {β : Type} (N : Nat) : Env β := VE97 N
def BV_impl_Table_at {β : Type} (N : Nat) (a0 : Int) (a1 : Int) (a2 : Int) (k : Int → Option β) : Option β :=
(gd ((decide (0 ≤ a2)))
(k ((bits .and .i64 (shrI .i64 a1 a2) 1))))
theorem t_impl_Table_at {β : Type} (N : Nat) (a0 : Int) (a1 : Int) (a2 : Int) (k : Int → Option β) : impl_Table_at N a0 a1 a2 k = BV_impl_Table_at N a0 a1 a2 k := by
  unfold impl_Table_at BV_impl_Table_at
  rfl
theorem ve97_0 {β : Type} (N : Nat)  (a0 : Int) (a1 : Int) (a2 : Int) (K : TV → Option β) : evFn lay (VE97 N) Try.f97 [.v (.agg [.int .i64 a0, .int .i64 a1]), .v (.one (.int .i64 a2))] K = BV_impl_Table_at N a0 a1 a2 (fun z3 => K (.v (.one (.int .i64 z3)))) := by kernel_rfl
theorem e97_0 {β : Type} (N : Nat)  (a0 : Int) (a1 : Int) (a2 : Int) (K : TV → Option β) : evFn lay (E97 N) Try.f97 [.v (.agg [.int .i64 a0, .int .i64 a1]), .v (.one (.int .i64 a2))] K = impl_Table_at N a0 a1 a2 (fun z3 => K (.v (.one (.int .i64 z3)))) := (ve97_0 N a0 a1 a2 K).trans (t_impl_Table_at N a0 a1 a2 (fun z3 => K (.v (.one (.int .i64 z3))))).symm
theorem o97 {β : Type} (N : Nat) : SpecOK (β := β) inv Try.prog 97 (S97 N) := by
  refine spec_of lay_ok mixed (E := E97 N) (specs_loops specs_nil) muts_nil gs_nil Try.func97 (by kernel_rfl) 0 (by kernel_rfl) trivial fun args K r h => ?_
  unfold S97 VS97 at h
  split at h
  · exact (e97_0 N _ _ _ _).trans h
  · cases h
def VS93 {β : Type} (N : Nat) (q_impl_Table_threshold : (a0 : Int) → (a1 : Int) → (a2 : List Int) → (k : Int → Bool → Option β) → Option β) : Rv.Spec β := fun args K => match args with
  | [.v (.agg [.int .i64 a0, .int .i64 a1]), .v (.one (.sl 3 (.ints .i64 a2)))] => q_impl_Table_threshold a0 a1 a2 (fun z3 z4 => K (.tup [.one (.int .i64 z3), .one (.bool z4)]))
  | _ => none
def S93 {β : Type} (N : Nat) : Rv.Spec β := VS93 N (impl_Table_threshold N)
def h93_0_0  (v0 : List Int) (v1 : Int) (v2 : Int) (v3 : Bool) (v4 : Bool) (v5 : Int) (v6 : Int) (v7 : Int) (v8 : Int) : St := ⟨.v (.one .und) :: .v (.one (.sl 3 (.ints .i64 v0))) :: .v (.one (.ptr 0 0)) :: .v (.one .und) :: .v (.one .und) :: .v (.one .und) :: .v (.one (.int .i64 v1)) :: .v (.one (.int .i64 v2)) :: .v (.one (.bool v3)) :: .v (.one (.bool v4)) :: .v (.one .und) :: .v (.one .und) :: .v (.one .und) :: .v (.one (.int .i64 v5)) :: .v (.one (.int .i64 v6)) :: .v (.one .und) :: .v (.one .und) :: .v (.one .und) :: .v (.one .und) :: .v (.one .und) :: .v (.one .und) :: .v (.one .und) :: .v (.one .und) :: .v (.one .und) :: .v (.one .und) :: .v (.one .und) :: .v (.one .und) :: .v (.one .und) :: .v (.one .und) :: .v (.one .und) :: .v (.one .und) :: .v (.one .und) :: .v (.one .und) :: .v (.one .und) :: .v (.one .und) :: .v (.one .und) :: .v (.one .und) :: .v (.one .und) :: .v (.one .und) :: .v (.one .und) :: .v (.one .und) :: .v (.one .und) :: .v (.one .und) :: .v (.one .und) :: .v (.one .und) :: .v (.one .und) :: .v (.one .und) :: .v (.one .und) :: .v (.one .und) :: .v (.one .und) :: .v (.one .und) :: .v (.one .und) :: .v (.one .und) :: .v (.one .und) :: .v (.one .und) :: .v (.one .und) :: .v (.one .und) :: .v (.one .und) :: .v (.one .und) :: [], [.cells 27 [.int .i64 v7, .int .i64 v8]]⟩
def x93_0_0_k0  (y0 : Int) (y1 : Int) (y2 : Bool) (y3 : Bool) : St := ⟨.v (.one .und) :: .v (.one .und) :: .v (.one .und) :: .v (.one .und) :: .v (.one .und) :: .v (.one .und) :: .v (.one (.int .i64 y0)) :: .v (.one (.int .i64 y1)) :: .v (.one (.bool y2)) :: .v (.one (.bool y3)) :: .v (.one .und) :: .v (.one .und) :: .v (.one .und) :: .v (.one .und) :: .v (.one .und) :: .v (.one .und) :: .v (.one .und) :: .v (.one .und) :: .v (.one .und) :: .v (.one .und) :: .v (.one .und) :: .v (.one .und) :: .v (.one .und) :: .v (.one .und) :: .v (.one .und) :: .v (.one .und) :: .v (.one .und) :: .v (.one .und) :: .v (.one .und) :: .v (.one .und) :: .v (.one .und) :: .v (.one .und) :: .v (.one .und) :: .v (.one .und) :: .v (.one .und) :: .v (.one .und) :: .v (.one .und) :: .v (.one .und) :: .v (.one .und) :: .v (.one .und) :: .v (.one .und) :: .v (.one .und) :: .v (.one .und) :: .v (.one .und) :: .v (.one .und) :: .v (.one .und) :: .v (.one .und) :: .v (.one .und) :: .v (.one .und) :: .v (.one .und) :: .v (.one .und) :: .v (.one .und) :: .v (.one .und) :: .v (.one .und) :: .v (.one .und) :: .v (.one .und) :: .v (.one .und) :: .v (.one .und) :: .v (.one .und) :: [], []⟩
theorem fl93_0_0 (s : St) : refSt (h93_0_0 [] 0 0 false false 0 0 0 0) s = h93_0_0 (rInts (rowV (oneA (vT (nx tund s.tmps 1))))) (intS (oneA (vT (nx tund s.tmps 6)))) (intS (oneA (vT (nx tund s.tmps 7)))) (boolS (oneA (vT (nx tund s.tmps 8)))) (boolS (oneA (vT (nx tund s.tmps 9)))) (intS (oneA (vT (nx tund s.tmps 13)))) (intS (oneA (vT (nx tund s.tmps 14)))) (intS (nx .und (cellsB (nx .dead s.blks 0)) 0)) (intS (nx .und (cellsB (nx .dead s.blks 0)) 1)) := by kernel_rfl
def VLS93_0 {β : Type} (N : Nat) (q_impl_Table_threshold_l0 : Nat → List Int → Int → Int → Bool → Bool → Int → Int → Int → Int → (Int → Int → Bool → Bool → Option β) → Option β) : LSpec β := fun s K => cond (shpSt (h93_0_0 [] 0 0 false false 0 0 0 0) s) ((fun (v0 : List Int) (v1 : Int) (v2 : Int) (v3 : Bool) (v4 : Bool) (v5 : Int) (v6 : Int) (v7 : Int) (v8 : Int) => q_impl_Table_threshold_l0  N v0 v1 v2 v3 v4 v5 v6 v7 v8 (fun y0 y1 y2 y3 => K (.exit 0) (x93_0_0_k0  y0 y1 y2 y3))) (rInts (rowV (oneA (vT (nx tund s.tmps 1))))) (intS (oneA (vT (nx tund s.tmps 6)))) (intS (oneA (vT (nx tund s.tmps 7)))) (boolS (oneA (vT (nx tund s.tmps 8)))) (boolS (oneA (vT (nx tund s.tmps 9)))) (intS (oneA (vT (nx tund s.tmps 13)))) (intS (oneA (vT (nx tund s.tmps 14)))) (intS (nx .und (cellsB (nx .dead s.blks 0)) 0)) (intS (nx .und (cellsB (nx .dead s.blks 0)) 1))) (none)
def LS93_0 {β : Type} (N : Nat) : LSpec β := VLS93_0 N (impl_Table_threshold_l0 N)
def VE93 {β : Type} (N : Nat) (q_impl_Table_size : (a0 : Int) → (a1 : Int) → (k : Int → Option β) → Option β) (q_impl_weightAt : (a0 : List Int) → (a1 : Int) → (k : Int → Option β) → Option β) (q_impl_Table_at : (a0 : Int) → (a1 : Int) → (a2 : Int) → (k : Int → Option β) → Option β) (q_impl_Table_threshold_l0 : Nat → List Int → Int → Int → Bool → Bool → Int → Int → Int → Int → (Int → Int → Bool → Bool → Option β) → Option β) : Env β := ⟨[(96, VS96 N q_impl_Table_size), (125, VS125 N q_impl_weightAt), (97, VS97 N q_impl_Table_at)], [], [(0, VLS93_0 N q_impl_Table_threshold_l0)], [], ⟨[], [], []⟩⟩
def E93 {β : Type} (N : Nat) : Env β := VE93 N (impl_Table_size N) (impl_weightAt N) (impl_Table_at N) (impl_Table_threshold_l0 N)
def BV_impl_Table_threshold_l0b {β : Type} (N : Nat) (q_impl_weightAt : (a0 : List Int) → (a1 : Int) → (k : Int → Option β) → Option β) (q_impl_Table_at : (a0 : Int) → (a1 : Int) → (a2 : Int) → (k : Int → Option β) → Option β)  (v0 : List Int) (v1 : Int) (v2 : Int) (v3 : Bool) (v4 : Bool) (v5 : Int) (v6 : Int) (v7 : Int) (v8 : Int) (rec_ : List Int → Int → Int → Bool → Bool → Int → Int → Int → Int → Option β) (k0 : Int → Int → Bool → Bool → Option β) : Option β :=
(cond ((decide (v6 < v5)))
(q_impl_weightAt v0 v6 fun r6 =>
q_impl_Table_at v7 v8 v6 fun r7 =>
(cond ((r7 == 1))
((cond (!v3)
(q_impl_Table_at v7 v8 v6 fun r8 =>
(cond ((r8 == 0))
((cond v4
(rec_ v0 r6 r6 true false v5 ((w64 (v6 + 1))) v7 v8)
((cond ((decide (r6 > v2)))
(rec_ v0 r6 r6 true false v5 ((w64 (v6 + 1))) v7 v8)
(rec_ v0 r6 v2 true v4 v5 ((w64 (v6 + 1))) v7 v8)))))
(rec_ v0 r6 v2 true v4 v5 ((w64 (v6 + 1))) v7 v8)))
((cond ((decide (r6 < v1)))
(q_impl_Table_at v7 v8 v6 fun r9 =>
(cond ((r9 == 0))
((cond v4
(rec_ v0 r6 r6 true false v5 ((w64 (v6 + 1))) v7 v8)
((cond ((decide (r6 > v2)))
(rec_ v0 r6 r6 true false v5 ((w64 (v6 + 1))) v7 v8)
(rec_ v0 r6 v2 true v4 v5 ((w64 (v6 + 1))) v7 v8)))))
(rec_ v0 r6 v2 true v4 v5 ((w64 (v6 + 1))) v7 v8)))
(q_impl_Table_at v7 v8 v6 fun r10 =>
(cond ((r10 == 0))
((cond v4
(rec_ v0 v1 r6 v3 false v5 ((w64 (v6 + 1))) v7 v8)
((cond ((decide (r6 > v2)))
(rec_ v0 v1 r6 v3 false v5 ((w64 (v6 + 1))) v7 v8)
(rec_ v0 v1 v2 v3 v4 v5 ((w64 (v6 + 1))) v7 v8)))))
(rec_ v0 v1 v2 v3 v4 v5 ((w64 (v6 + 1))) v7 v8)))))))
(q_impl_Table_at v7 v8 v6 fun r11 =>
(cond ((r11 == 0))
((cond v4
(rec_ v0 v1 r6 v3 false v5 ((w64 (v6 + 1))) v7 v8)
((cond ((decide (r6 > v2)))
(rec_ v0 v1 r6 v3 false v5 ((w64 (v6 + 1))) v7 v8)
(rec_ v0 v1 v2 v3 v4 v5 ((w64 (v6 + 1))) v7 v8)))))
(rec_ v0 v1 v2 v3 v4 v5 ((w64 (v6 + 1))) v7 v8)))))
(k0 v1 v2 v3 v4))
theorem t_impl_Table_threshold_l0b {β : Type} (N : Nat)  (v0 : List Int) (v1 : Int) (v2 : Int) (v3 : Bool) (v4 : Bool) (v5 : Int) (v6 : Int) (v7 : Int) (v8 : Int) (rec_ : List Int → Int → Int → Bool → Bool → Int → Int → Int → Int → Option β) (k0 : Int → Int → Bool → Bool → Option β) : impl_Table_threshold_l0b N v0 v1 v2 v3 v4 v5 v6 v7 v8 rec_ k0 = BV_impl_Table_threshold_l0b N (impl_weightAt N) (impl_Table_at N) v0 v1 v2 v3 v4 v5 v6 v7 v8 rec_ k0 := by
  unfold impl_Table_threshold_l0b BV_impl_Table_threshold_l0b
  rfl
theorem vst93_0_0 {β : Type} (N : Nat) (q_impl_Table_size : (a0 : Int) → (a1 : Int) → (k : Int → Option β) → Option β) (q_impl_weightAt : (a0 : List Int) → (a1 : Int) → (k : Int → Option β) → Option β) (q_impl_Table_at : (a0 : Int) → (a1 : Int) → (a2 : Int) → (k : Int → Option β) → Option β) (q_impl_Table_threshold_l0 : Nat → List Int → Int → Int → Bool → Bool → Int → Int → Int → Int → (Int → Int → Bool → Bool → Option β) → Option β)  (v0 : List Int) (v1 : Int) (v2 : Int) (v3 : Bool) (v4 : Bool) (v5 : Int) (v6 : Int) (v7 : Int) (v8 : Int) (rec_ : St → Option β) (K : Exit → St → Option β) :
    ev lay (VE93 N q_impl_Table_size q_impl_weightAt q_impl_Table_at q_impl_Table_threshold_l0) (retMask Try.f93) (lp Try.f93 0).body (lp Try.f93 0).ex ((lp Try.f93 0).lv (retMask Try.f93)) (h93_0_0  v0 v1 v2 v3 v4 v5 v6 v7 v8) (nextR (fun s' => rec_ (s'.tidy ((lp Try.f93 0).lv (retMask Try.f93)))) K) = BV_impl_Table_threshold_l0b N q_impl_weightAt q_impl_Table_at  v0 v1 v2 v3 v4 v5 v6 v7 v8 (fun v0 v1 v2 v3 v4 v5 v6 v7 v8 => rec_ (h93_0_0  v0 v1 v2 v3 v4 v5 v6 v7 v8)) (fun y0 y1 y2 y3 => K (.exit 0) (x93_0_0_k0  y0 y1 y2 y3)) := by kernel_rfl
theorem st93_0_0 {β : Type} (N : Nat)  (v0 : List Int) (v1 : Int) (v2 : Int) (v3 : Bool) (v4 : Bool) (v5 : Int) (v6 : Int) (v7 : Int) (v8 : Int) (rec_ : St → Option β) (K : Exit → St → Option β) :
    ev lay (E93 N) (retMask Try.f93) (lp Try.f93 0).body (lp Try.f93 0).ex ((lp Try.f93 0).lv (retMask Try.f93)) (h93_0_0  v0 v1 v2 v3 v4 v5 v6 v7 v8) (nextR (fun s' => rec_ (s'.tidy ((lp Try.f93 0).lv (retMask Try.f93)))) K) = impl_Table_threshold_l0b N  v0 v1 v2 v3 v4 v5 v6 v7 v8 (fun v0 v1 v2 v3 v4 v5 v6 v7 v8 => rec_ (h93_0_0  v0 v1 v2 v3 v4 v5 v6 v7 v8)) (fun y0 y1 y2 y3 => K (.exit 0) (x93_0_0_k0  y0 y1 y2 y3)) := (vst93_0_0 N (impl_Table_size N) (impl_weightAt N) (impl_Table_at N) (impl_Table_threshold_l0 N) v0 v1 v2 v3 v4 v5 v6 v7 v8 rec_ K).trans (t_impl_Table_threshold_l0b N  v0 v1 v2 v3 v4 v5 v6 v7 v8 (fun v0 v1 v2 v3 v4 v5 v6 v7 v8 => rec_ (h93_0_0  v0 v1 v2 v3 v4 v5 v6 v7 v8)) (fun y0 y1 y2 y3 => K (.exit 0) (x93_0_0_k0  y0 y1 y2 y3))).symm
theorem ro93_0_0 {β : Type} (N : Nat)  (K : Exit → St → Option β) : ∀ (F : Nat) (v0 : List Int) (v1 : Int) (v2 : Int) (v3 : Bool) (v4 : Bool) (v5 : Int) (v6 : Int) (v7 : Int) (v8 : Int), (lp Try.f93 0).rounds lay (E93 N) (retMask Try.f93) F (h93_0_0  v0 v1 v2 v3 v4 v5 v6 v7 v8) K = impl_Table_threshold_l0 N  F v0 v1 v2 v3 v4 v5 v6 v7 v8 (fun y0 y1 y2 y3 => K (.exit 0) (x93_0_0_k0  y0 y1 y2 y3)) := by
  intro F
  induction F with
  | zero => intros; rfl
  | succ F ih =>
    intros
    rw [rounds_next]
    refine (st93_0_0 N  _ _ _ _ _ _ _ _ _ (fun s => (lp Try.f93 0).rounds lay (E93 N) (retMask Try.f93) F s K) K).trans ?_
    simp only [ih]
    rfl
theorem lk93_0 {β : Type} (N : Nat) : lookL (E93 (β := β) N).loops (lp Try.f93 0).id = LS93_0 N := by kernel_rfl
theorem rk93_0 {β : Type} (N : Nat) : RoundsOK lay (E93 (β := β) N) (retMask Try.f93) (lp Try.f93 0) := by
  intro s K r h
  rw [lk93_0] at h
  unfold LS93_0 VLS93_0 at h
  cases hb : shpSt (h93_0_0 [] 0 0 false false 0 0 0 0) s with
  | true =>
    rw [hb, cond_true] at h
    exact ⟨N, by rw [← shpSt_ref hb, fl93_0_0 s]; exact (ro93_0_0 N  K N (rInts (rowV (oneA (vT (nx tund s.tmps 1))))) (intS (oneA (vT (nx tund s.tmps 6)))) (intS (oneA (vT (nx tund s.tmps 7)))) (boolS (oneA (vT (nx tund s.tmps 8)))) (boolS (oneA (vT (nx tund s.tmps 9)))) (intS (oneA (vT (nx tund s.tmps 13)))) (intS (oneA (vT (nx tund s.tmps 14)))) (intS (nx .und (cellsB (nx .dead s.blks 0)) 0)) (intS (nx .und (cellsB (nx .dead s.blks 0)) 1))).trans h⟩
  | false =>
  rw [hb, cond_false] at h
  clear hb
  cases h
def BV_impl_Table_threshold {β : Type} (N : Nat) (q_impl_Table_size : (a0 : Int) → (a1 : Int) → (k : Int → Option β) → Option β) (q_impl_Table_threshold_l0 : Nat → List Int → Int → Int → Bool → Bool → Int → Int → Int → Int → (Int → Int → Bool → Bool → Option β) → Option β) (a0 : Int) (a1 : Int) (a2 : List Int) (k : Int → Bool → Option β) : Option β :=
q_impl_Table_size a0 a1 fun r5 =>
q_impl_Table_threshold_l0  N a2 0 0 false true r5 0 a0 a1 (fun e12_0 e12_1 e12_2 e12_3 =>
(cond (!e12_2)
(k ((w64 (e12_1 + 1))) true)
((cond e12_3
(k e12_0 true)
(k e12_0 ((decide (e12_1 < e12_0))))))))
theorem t_impl_Table_threshold {β : Type} (N : Nat) (a0 : Int) (a1 : Int) (a2 : List Int) (k : Int → Bool → Option β) : impl_Table_threshold N a0 a1 a2 k = BV_impl_Table_threshold N (impl_Table_size N) (impl_Table_threshold_l0 N) a0 a1 a2 k := by
  unfold impl_Table_threshold BV_impl_Table_threshold
  rfl
theorem ve93_0 {β : Type} (N : Nat) (q_impl_Table_size : (a0 : Int) → (a1 : Int) → (k : Int → Option β) → Option β) (q_impl_weightAt : (a0 : List Int) → (a1 : Int) → (k : Int → Option β) → Option β) (q_impl_Table_at : (a0 : Int) → (a1 : Int) → (a2 : Int) → (k : Int → Option β) → Option β) (q_impl_Table_threshold_l0 : Nat → List Int → Int → Int → Bool → Bool → Int → Int → Int → Int → (Int → Int → Bool → Bool → Option β) → Option β)  (a0 : Int) (a1 : Int) (a2 : List Int) (K : TV → Option β) : evFn lay (VE93 N q_impl_Table_size q_impl_weightAt q_impl_Table_at q_impl_Table_threshold_l0) Try.f93 [.v (.agg [.int .i64 a0, .int .i64 a1]), .v (.one (.sl 3 (.ints .i64 a2)))] K = BV_impl_Table_threshold N q_impl_Table_size q_impl_Table_threshold_l0 a0 a1 a2 (fun z3 z4 => K (.tup [.one (.int .i64 z3), .one (.bool z4)])) := by kernel_rfl
theorem e93_0 {β : Type} (N : Nat)  (a0 : Int) (a1 : Int) (a2 : List Int) (K : TV → Option β) : evFn lay (E93 N) Try.f93 [.v (.agg [.int .i64 a0, .int .i64 a1]), .v (.one (.sl 3 (.ints .i64 a2)))] K = impl_Table_threshold N a0 a1 a2 (fun z3 z4 => K (.tup [.one (.int .i64 z3), .one (.bool z4)])) := (ve93_0 N (impl_Table_size N) (impl_weightAt N) (impl_Table_at N) (impl_Table_threshold_l0 N) a0 a1 a2 K).trans (t_impl_Table_threshold N a0 a1 a2 (fun z3 z4 => K (.tup [.one (.int .i64 z3), .one (.bool z4)]))).symm
theorem o93 {β : Type} (N : Nat) : SpecOK (β := β) inv Try.prog 93 (S93 N) := by
  refine spec_of lay_ok mixed (E := E93 N) (specs_loops (specs_cons (o96 N) (specs_cons (o125 N) (specs_cons (o97 N) specs_nil)))) muts_nil gs_nil Try.func93 (by kernel_rfl) 1 (by kernel_rfl) ⟨trivial, rk93_0 N⟩ fun args K r h => ?_
  unfold S93 VS93 at h
  split at h
  · exact (e93_0 N _ _ _ _).trans h
  · cases h
def VS126 {β : Type} (N : Nat) (q_impl_size1 : (a0 : Int) → (k : Int → Option β) → Option β) : Rv.Spec β := fun args K => match args with
  | [.v (.one (.int .i64 a0))] => q_impl_size1 a0 (fun z1 => K (.v (.one (.int .i64 z1))))
  | _ => none
def S126 {β : Type} (N : Nat) : Rv.Spec β := VS126 N (impl_size1 N)
def VE126 {β : Type} (N : Nat) : Env β := ⟨[], [], [], [], ⟨[], [], []⟩⟩
def E126 {β : Type} (N : Nat) : Env β := VE126 N
def BV_impl_size1 {β : Type} (N : Nat) (a0 : Int) (k : Int → Option β) : Option β :=
k ((mxI a0 (w64 (0 - a0))))
theorem t_impl_size1 {β : Type} (N : Nat) (a0 : Int) (k : Int → Option β) : impl_size1 N a0 k = BV_impl_size1 N a0 k := by
  unfold impl_size1 BV_impl_size1
  rfl
theorem ve126_0 {β : Type} (N : Nat)  (a0 : Int) (K : TV → Option β) : evFn lay (VE126 N) Try.f126 [.v (.one (.int .i64 a0))] K = BV_impl_size1 N a0 (fun z1 => K (.v (.one (.int .i64 z1)))) := by kernel_rfl
theorem e126_0 {β : Type} (N : Nat)  (a0 : Int) (K : TV → Option β) : evFn lay (E126 N) Try.f126 [.v (.one (.int .i64 a0))] K = impl_size1 N a0 (fun z1 => K (.v (.one (.int .i64 z1)))) := (ve126_0 N a0 K).trans (t_impl_size1 N a0 (fun z1 => K (.v (.one (.int .i64 z1))))).symm
theorem o126 {β : Type} (N : Nat) : SpecOK (β := β) inv Try.prog 126 (S126 N) := by
  refine spec_of lay_ok mixed (E := E126 N) (specs_loops specs_nil) muts_nil gs_nil Try.func126 (by kernel_rfl) 0 (by kernel_rfl) trivial fun args K r h => ?_
  unfold S126 VS126 at h
  split at h
  · exact (e126_0 N _ _).trans h
  · cases h
def VS94 {β : Type} (N : Nat) (q_impl_sumOfSizes : (a0 : List Int) → (k : Int → Option β) → Option β) : Rv.Spec β := fun args K => match args with
  | [.v (.one (.sl 3 (.ints .i64 a0)))] => q_impl_sumOfSizes a0 (fun z1 => K (.v (.one (.int .i64 z1))))
  | _ => none
def S94 {β : Type} (N : Nat) : Rv.Spec β := VS94 N (impl_sumOfSizes N)
def h94_0_0  (v0 : Int) (v1 : List Int) (v2 : Int) (v3 : Int) : St := ⟨.v (.one .und) :: .v (.one .und) :: .v (.one .und) :: .v (.one (.int .i64 v0)) :: .v (.one .und) :: .v (.one .und) :: .v (.one (.sl 3 (.ints .i64 v1))) :: .v (.one (.int .i64 v2)) :: .v (.one (.int .i64 v3)) :: .v (.one .und) :: .v (.one .und) :: .v (.one .und) :: .v (.one .und) :: .v (.one .und) :: .v (.one .und) :: .v (.one .und) :: .v (.one .und) :: .v (.one .und) :: [], []⟩
def x94_0_0_k0  (y0 : Int) : St := ⟨.v (.one .und) :: .v (.one .und) :: .v (.one .und) :: .v (.one (.int .i64 y0)) :: .v (.one .und) :: .v (.one .und) :: .v (.one .und) :: .v (.one .und) :: .v (.one .und) :: .v (.one .und) :: .v (.one .und) :: .v (.one .und) :: .v (.one .und) :: .v (.one .und) :: .v (.one .und) :: .v (.one .und) :: .v (.one .und) :: .v (.one .und) :: [], []⟩
theorem fl94_0_0 (s : St) : refSt (h94_0_0 0 [] 0 0) s = h94_0_0 (intS (oneA (vT (nx tund s.tmps 3)))) (rInts (rowV (oneA (vT (nx tund s.tmps 6))))) (intS (oneA (vT (nx tund s.tmps 7)))) (intS (oneA (vT (nx tund s.tmps 8)))) := by kernel_rfl
def VLS94_0 {β : Type} (N : Nat) (q_impl_sumOfSizes_l0 : Nat → Int → List Int → Int → Int → (Int → Option β) → Option β) : LSpec β := fun s K => cond (shpSt (h94_0_0 0 [] 0 0) s) ((fun (v0 : Int) (v1 : List Int) (v2 : Int) (v3 : Int) => q_impl_sumOfSizes_l0  N v0 v1 v2 v3 (fun y0 => K (.exit 0) (x94_0_0_k0  y0))) (intS (oneA (vT (nx tund s.tmps 3)))) (rInts (rowV (oneA (vT (nx tund s.tmps 6))))) (intS (oneA (vT (nx tund s.tmps 7)))) (intS (oneA (vT (nx tund s.tmps 8))))) (none)
def LS94_0 {β : Type} (N : Nat) : LSpec β := VLS94_0 N (impl_sumOfSizes_l0 N)
def VE94 {β : Type} (N : Nat) (q_impl_size1 : (a0 : Int) → (k : Int → Option β) → Option β) (q_impl_sumOfSizes_l0 : Nat → Int → List Int → Int → Int → (Int → Option β) → Option β) : Env β := ⟨[(126, VS126 N q_impl_size1)], [], [(0, VLS94_0 N q_impl_sumOfSizes_l0)], [], ⟨[], [], []⟩⟩
def E94 {β : Type} (N : Nat) : Env β := VE94 N (impl_size1 N) (impl_sumOfSizes_l0 N)
def BV_impl_sumOfSizes_l0b {β : Type} (N : Nat) (q_impl_size1 : (a0 : Int) → (k : Int → Option β) → Option β)  (v0 : Int) (v1 : List Int) (v2 : Int) (v3 : Int) (rec_ : Int → List Int → Int → Int → Option β) (k0 : Int → Option β) : Option β :=
(cond ((decide (v3 < v2)))
((gd ((decide (0 ≤ v3)))
((gd ((decide (v3 < (v1.length : Int))))
(q_impl_size1 ((rd 0 v1 v3)) fun r2 =>
rec_ ((w64 (v0 + r2))) v1 v2 ((w64 (v3 + 1))))))))
(k0 v0))
theorem t_impl_sumOfSizes_l0b {β : Type} (N : Nat)  (v0 : Int) (v1 : List Int) (v2 : Int) (v3 : Int) (rec_ : Int → List Int → Int → Int → Option β) (k0 : Int → Option β) : impl_sumOfSizes_l0b N v0 v1 v2 v3 rec_ k0 = BV_impl_sumOfSizes_l0b N (impl_size1 N) v0 v1 v2 v3 rec_ k0 := by
  unfold impl_sumOfSizes_l0b BV_impl_sumOfSizes_l0b
  rfl
theorem vst94_0_0 {β : Type} (N : Nat) (q_impl_size1 : (a0 : Int) → (k : Int → Option β) → Option β) (q_impl_sumOfSizes_l0 : Nat → Int → List Int → Int → Int → (Int → Option β) → Option β)  (v0 : Int) (v1 : List Int) (v2 : Int) (v3 : Int) (rec_ : St → Option β) (K : Exit → St → Option β) :
    ev lay (VE94 N q_impl_size1 q_impl_sumOfSizes_l0) (retMask Try.f94) (lp Try.f94 0).body (lp Try.f94 0).ex ((lp Try.f94 0).lv (retMask Try.f94)) (h94_0_0  v0 v1 v2 v3) (nextR (fun s' => rec_ (s'.tidy ((lp Try.f94 0).lv (retMask Try.f94)))) K) = BV_impl_sumOfSizes_l0b N q_impl_size1  v0 v1 v2 v3 (fun v0 v1 v2 v3 => rec_ (h94_0_0  v0 v1 v2 v3)) (fun y0 => K (.exit 0) (x94_0_0_k0  y0)) := by kernel_rfl
theorem st94_0_0 {β : Type} (N : Nat)  (v0 : Int) (v1 : List Int) (v2 : Int) (v3 : Int) (rec_ : St → Option β) (K : Exit → St → Option β) :
    ev lay (E94 N) (retMask Try.f94) (lp Try.f94 0).body (lp Try.f94 0).ex ((lp Try.f94 0).lv (retMask Try.f94)) (h94_0_0  v0 v1 v2 v3) (nextR (fun s' => rec_ (s'.tidy ((lp Try.f94 0).lv (retMask Try.f94)))) K) = impl_sumOfSizes_l0b N  v0 v1 v2 v3 (fun v0 v1 v2 v3 => rec_ (h94_0_0  v0 v1 v2 v3)) (fun y0 => K (.exit 0) (x94_0_0_k0  y0)) := (vst94_0_0 N (impl_size1 N) (impl_sumOfSizes_l0 N) v0 v1 v2 v3 rec_ K).trans (t_impl_sumOfSizes_l0b N  v0 v1 v2 v3 (fun v0 v1 v2 v3 => rec_ (h94_0_0  v0 v1 v2 v3)) (fun y0 => K (.exit 0) (x94_0_0_k0  y0))).symm
theorem ro94_0_0 {β : Type} (N : Nat)  (K : Exit → St → Option β) : ∀ (F : Nat) (v0 : Int) (v1 : List Int) (v2 : Int) (v3 : Int), (lp Try.f94 0).rounds lay (E94 N) (retMask Try.f94) F (h94_0_0  v0 v1 v2 v3) K = impl_sumOfSizes_l0 N  F v0 v1 v2 v3 (fun y0 => K (.exit 0) (x94_0_0_k0  y0)) := by
  intro F
  induction F with
  | zero => intros; rfl
  | succ F ih =>
    intros
    rw [rounds_next]
    refine (st94_0_0 N  _ _ _ _ (fun s => (lp Try.f94 0).rounds lay (E94 N) (retMask Try.f94) F s K) K).trans ?_
    simp only [ih]
    rfl
theorem lk94_0 {β : Type} (N : Nat) : lookL (E94 (β := β) N).loops (lp Try.f94 0).id = LS94_0 N := by kernel_rfl
theorem rk94_0 {β : Type} (N : Nat) : RoundsOK lay (E94 (β := β) N) (retMask Try.f94) (lp Try.f94 0) := by
  intro s K r h
  rw [lk94_0] at h
  unfold LS94_0 VLS94_0 at h
  cases hb : shpSt (h94_0_0 0 [] 0 0) s with
  | true =>
    rw [hb, cond_true] at h
    exact ⟨N, by rw [← shpSt_ref hb, fl94_0_0 s]; exact (ro94_0_0 N  K N (intS (oneA (vT (nx tund s.tmps 3)))) (rInts (rowV (oneA (vT (nx tund s.tmps 6))))) (intS (oneA (vT (nx tund s.tmps 7)))) (intS (oneA (vT (nx tund s.tmps 8))))).trans h⟩
  | false =>
  rw [hb, cond_false] at h
  clear hb
  cases h
def BV_impl_sumOfSizes {β : Type} (N : Nat) (q_impl_sumOfSizes_l0 : Nat → Int → List Int → Int → Int → (Int → Option β) → Option β) (a0 : List Int) (k : Int → Option β) : Option β :=
q_impl_sumOfSizes_l0  N 0 a0 ((a0.length : Int)) 0 (fun e3_0 =>
k e3_0)
theorem t_impl_sumOfSizes {β : Type} (N : Nat) (a0 : List Int) (k : Int → Option β) : impl_sumOfSizes N a0 k = BV_impl_sumOfSizes N (impl_sumOfSizes_l0 N) a0 k := by
  unfold impl_sumOfSizes BV_impl_sumOfSizes
  rfl
theorem ve94_0 {β : Type} (N : Nat) (q_impl_size1 : (a0 : Int) → (k : Int → Option β) → Option β) (q_impl_sumOfSizes_l0 : Nat → Int → List Int → Int → Int → (Int → Option β) → Option β)  (a0 : List Int) (K : TV → Option β) : evFn lay (VE94 N q_impl_size1 q_impl_sumOfSizes_l0) Try.f94 [.v (.one (.sl 3 (.ints .i64 a0)))] K = BV_impl_sumOfSizes N q_impl_sumOfSizes_l0 a0 (fun z1 => K (.v (.one (.int .i64 z1)))) := by kernel_rfl
theorem e94_0 {β : Type} (N : Nat)  (a0 : List Int) (K : TV → Option β) : evFn lay (E94 N) Try.f94 [.v (.one (.sl 3 (.ints .i64 a0)))] K = impl_sumOfSizes N a0 (fun z1 => K (.v (.one (.int .i64 z1)))) := (ve94_0 N (impl_size1 N) (impl_sumOfSizes_l0 N) a0 K).trans (t_impl_sumOfSizes N a0 (fun z1 => K (.v (.one (.int .i64 z1))))).symm
theorem o94 {β : Type} (N : Nat) : SpecOK (β := β) inv Try.prog 94 (S94 N) := by
  refine spec_of lay_ok mixed (E := E94 N) (specs_loops (specs_cons (o126 N) specs_nil)) muts_nil gs_nil Try.func94 (by kernel_rfl) 1 (by kernel_rfl) ⟨trivial, rk94_0 N⟩ fun args K r h => ?_
  unfold S94 VS94 at h
  split at h
  · exact (e94_0 N _ _).trans h
  · cases h
def VS52 {β : Type} (N : Nat) (q_impl_WeightsFor : (a0 : Int) → (a1 : Int) → (k : List Int → Int → Bool → Option β) → Option β) : Rv.Spec β := fun args K => match args with
  | [.v (.agg [.int .i64 a0, .int .i64 a1])] => q_impl_WeightsFor a0 a1 (fun z2 z3 z4 => K (.tup [.one (.sl 3 (.ints .i64 z2)), .one (.int .i64 z3), .one (.bool z4)]))
  | _ => none
def S52 {β : Type} (N : Nat) : Rv.Spec β := VS52 N (impl_WeightsFor N)
def h52_0_0  (v0 : Int) (v1 : Bool) (v2 : Int) (v3 : Int) (v4 : List Int) (v5 : List Int) : St := ⟨.v (.one .und) :: .v (.one (.ptr 0 0)) :: .v (.one .und) :: .v (.one .und) :: .v (.one .und) :: .v (.one (.row 1)) :: .v (.one (.row 2)) :: .v (.one (.int .i64 v0)) :: .v (.one (.bool v1)) :: .v (.one .und) :: .v (.one .und) :: .v (.one .und) :: .v (.one .und) :: .v (.one .und) :: .v (.one .und) :: .v (.one .und) :: .v (.one .und) :: .v (.one .und) :: .v (.one .und) :: .v (.one .und) :: .v (.one .und) :: .v (.one .und) :: .v (.one .und) :: .v (.one .und) :: .v (.one .und) :: .v (.one .und) :: .v (.one .und) :: .v (.one .und) :: .v (.one .und) :: .v (.one .und) :: .v (.one .und) :: .v (.one .und) :: .v (.one .und) :: .v (.one .und) :: .v (.one .und) :: .v (.one .und) :: .v (.one .und) :: .v (.one .und) :: .v (.one .und) :: .v (.one .und) :: .v (.one .und) :: .v (.one .und) :: .v (.one .und) :: .v (.one .und) :: .v (.one .und) :: .v (.one .und) :: .v (.one .und) :: .v (.one .und) :: .v (.one .und) :: .v (.one .und) :: .v (.one .und) :: .v (.one .und) :: .v (.one .und) :: .v (.one .und) :: .v (.one .und) :: .v (.one .und) :: .v (.one .und) :: .v (.one .und) :: .v (.one .und) :: .v (.one .und) :: .v (.one .und) :: .v (.one .und) :: .v (.one .und) :: .v (.one .und) :: .v (.one .und) :: .v (.one .und) :: .v (.one .und) :: .v (.one .und) :: [], [.cells 27 [.int .i64 v2, .int .i64 v3], .row 3 (.ints .i64 v4), .row 3 (.ints .i64 v5)]⟩
def x52_0_0_k0  (y0 : Int) (y1 : Bool) (y2 : List Int) : St := ⟨.v (.one .und) :: .v (.one .und) :: .v (.one (.row 0)) :: .v (.one (.int .i64 y0)) :: .v (.one (.bool y1)) :: .v (.one .und) :: .v (.one .und) :: .v (.one .und) :: .v (.one .und) :: .v (.one .und) :: .v (.one .und) :: .v (.one .und) :: .v (.one .und) :: .v (.one .und) :: .v (.one .und) :: .v (.one .und) :: .v (.one .und) :: .v (.one .und) :: .v (.one .und) :: .v (.one .und) :: .v (.one .und) :: .v (.one .und) :: .v (.one .und) :: .v (.one .und) :: .v (.one .und) :: .v (.one .und) :: .v (.one .und) :: .v (.one .und) :: .v (.one .und) :: .v (.one .und) :: .v (.one .und) :: .v (.one .und) :: .v (.one .und) :: .v (.one .und) :: .v (.one .und) :: .v (.one .und) :: .v (.one .und) :: .v (.one .und) :: .v (.one .und) :: .v (.one .und) :: .v (.one .und) :: .v (.one .und) :: .v (.one .und) :: .v (.one .und) :: .v (.one .und) :: .v (.one .und) :: .v (.one .und) :: .v (.one .und) :: .v (.one .und) :: .v (.one .und) :: .v (.one .und) :: .v (.one .und) :: .v (.one .und) :: .v (.one .und) :: .v (.one .und) :: .v (.one .und) :: .v (.one .und) :: .v (.one .und) :: .v (.one .und) :: .v (.one .und) :: .v (.one .und) :: .v (.one .und) :: .v (.one .und) :: .v (.one .und) :: .v (.one .und) :: .v (.one .und) :: .v (.one .und) :: .v (.one .und) :: [], [.row 3 (.ints .i64 y2)]⟩
def h52_1_0  (v0 : Int) (v1 : Bool) (v2 : Int) (v3 : Int) (v4 : Int) (v5 : List Int) (v6 : List Int) : St := ⟨.v (.one .und) :: .v (.one (.ptr 0 0)) :: .v (.one .und) :: .v (.one .und) :: .v (.one .und) :: .v (.one (.row 1)) :: .v (.one (.row 2)) :: .v (.one (.int .i64 v0)) :: .v (.one (.bool v1)) :: .v (.one .und) :: .v (.one .und) :: .v (.one (.int .i64 v2)) :: .v (.one .und) :: .v (.one .und) :: .v (.one .und) :: .v (.one .und) :: .v (.one .und) :: .v (.one .und) :: .v (.one .und) :: .v (.one .und) :: .v (.one .und) :: .v (.one .und) :: .v (.one .und) :: .v (.one .und) :: .v (.one .und) :: .v (.one .und) :: .v (.one .und) :: .v (.one .und) :: .v (.one .und) :: .v (.one .und) :: .v (.one .und) :: .v (.one .und) :: .v (.one .und) :: .v (.one .und) :: .v (.one .und) :: .v (.one .und) :: .v (.one .und) :: .v (.one .und) :: .v (.one .und) :: .v (.one .und) :: .v (.one .und) :: .v (.one .und) :: .v (.one .und) :: .v (.one .und) :: .v (.one .und) :: .v (.one .und) :: .v (.one .und) :: .v (.one .und) :: .v (.one .und) :: .v (.one .und) :: .v (.one .und) :: .v (.one .und) :: .v (.one .und) :: .v (.one .und) :: .v (.one .und) :: .v (.one .und) :: .v (.one .und) :: .v (.one .und) :: .v (.one .und) :: .v (.one .und) :: .v (.one .und) :: .v (.one .und) :: .v (.one .und) :: .v (.one .und) :: .v (.one .und) :: .v (.one .und) :: .v (.one .und) :: .v (.one .und) :: [], [.cells 27 [.int .i64 v3, .int .i64 v4], .row 3 (.ints .i64 v5), .row 3 (.ints .i64 v6)]⟩
def x52_1_0_k0  (y0 : Int) (y1 : Bool) (y2 : Int) (y3 : Int) (y4 : Int) (y5 : List Int) (y6 : List Int) : St := ⟨.v (.one .und) :: .v (.one (.ptr 0 0)) :: .v (.one .und) :: .v (.one .und) :: .v (.one .und) :: .v (.one (.row 1)) :: .v (.one (.row 2)) :: .v (.one (.int .i64 y0)) :: .v (.one (.bool y1)) :: .v (.one .und) :: .v (.one .und) :: .v (.one (.int .i64 y2)) :: .v (.one .und) :: .v (.one .und) :: .v (.one .und) :: .v (.one .und) :: .v (.one .und) :: .v (.one .und) :: .v (.one .und) :: .v (.one .und) :: .v (.one .und) :: .v (.one .und) :: .v (.one .und) :: .v (.one .und) :: .v (.one .und) :: .v (.one .und) :: .v (.one .und) :: .v (.one .und) :: .v (.one .und) :: .v (.one .und) :: .v (.one .und) :: .v (.one .und) :: .v (.one .und) :: .v (.one .und) :: .v (.one .und) :: .v (.one .und) :: .v (.one .und) :: .v (.one .und) :: .v (.one .und) :: .v (.one .und) :: .v (.one .und) :: .v (.one .und) :: .v (.one .und) :: .v (.one .und) :: .v (.one .und) :: .v (.one .und) :: .v (.one .und) :: .v (.one .und) :: .v (.one .und) :: .v (.one .und) :: .v (.one .und) :: .v (.one .und) :: .v (.one .und) :: .v (.one .und) :: .v (.one .und) :: .v (.one .und) :: .v (.one .und) :: .v (.one .und) :: .v (.one .und) :: .v (.one .und) :: .v (.one .und) :: .v (.one .und) :: .v (.one .und) :: .v (.one .und) :: .v (.one .und) :: .v (.one .und) :: .v (.one .und) :: .v (.one .und) :: [], [.cells 27 [.int .i64 y3, .int .i64 y4], .row 3 (.ints .i64 y5), .row 3 (.ints .i64 y6)]⟩
theorem fl52_0_0 (s : St) : refSt (h52_0_0 0 false 0 0 [] []) s = h52_0_0 (intS (oneA (vT (nx tund s.tmps 7)))) (boolS (oneA (vT (nx tund s.tmps 8)))) (intS (nx .und (cellsB (nx .dead s.blks 0)) 0)) (intS (nx .und (cellsB (nx .dead s.blks 0)) 1)) (rInts (rowB_ (nx .dead s.blks 1))) (rInts (rowB_ (nx .dead s.blks 2))) := by kernel_rfl
def VLS52_0 {β : Type} (N : Nat) (q_impl_WeightsFor_l0 : Nat → Int → Bool → Int → Int → List Int → List Int → (Int → Bool → List Int → Option β) → Option β) : LSpec β := fun s K => cond (shpSt (h52_0_0 0 false 0 0 [] []) s) ((fun (v0 : Int) (v1 : Bool) (v2 : Int) (v3 : Int) (v4 : List Int) (v5 : List Int) => q_impl_WeightsFor_l0  N v0 v1 v2 v3 v4 v5 (fun y0 y1 y2 => K .ret (x52_0_0_k0  y0 y1 y2))) (intS (oneA (vT (nx tund s.tmps 7)))) (boolS (oneA (vT (nx tund s.tmps 8)))) (intS (nx .und (cellsB (nx .dead s.blks 0)) 0)) (intS (nx .und (cellsB (nx .dead s.blks 0)) 1)) (rInts (rowB_ (nx .dead s.blks 1))) (rInts (rowB_ (nx .dead s.blks 2)))) (none)
def LS52_0 {β : Type} (N : Nat) : LSpec β := VLS52_0 N (impl_WeightsFor_l0 N)
theorem fl52_1_0 (s : St) : refSt (h52_1_0 0 false 0 0 0 [] []) s = h52_1_0 (intS (oneA (vT (nx tund s.tmps 7)))) (boolS (oneA (vT (nx tund s.tmps 8)))) (intS (oneA (vT (nx tund s.tmps 11)))) (intS (nx .und (cellsB (nx .dead s.blks 0)) 0)) (intS (nx .und (cellsB (nx .dead s.blks 0)) 1)) (rInts (rowB_ (nx .dead s.blks 1))) (rInts (rowB_ (nx .dead s.blks 2))) := by kernel_rfl
def VLS52_2 {β : Type} (N : Nat) (q_impl_WeightsFor_l2 : Nat → Int → Bool → Int → Int → Int → List Int → List Int → (Int → Bool → Int → Int → Int → List Int → List Int → Option β) → Option β) : LSpec β := fun s K => cond (shpSt (h52_1_0 0 false 0 0 0 [] []) s) ((fun (v0 : Int) (v1 : Bool) (v2 : Int) (v3 : Int) (v4 : Int) (v5 : List Int) (v6 : List Int) => q_impl_WeightsFor_l2  N v0 v1 v2 v3 v4 v5 v6 (fun y0 y1 y2 y3 y4 y5 y6 => K (.exit 2) (x52_1_0_k0  y0 y1 y2 y3 y4 y5 y6))) (intS (oneA (vT (nx tund s.tmps 7)))) (boolS (oneA (vT (nx tund s.tmps 8)))) (intS (oneA (vT (nx tund s.tmps 11)))) (intS (nx .und (cellsB (nx .dead s.blks 0)) 0)) (intS (nx .und (cellsB (nx .dead s.blks 0)) 1)) (rInts (rowB_ (nx .dead s.blks 1))) (rInts (rowB_ (nx .dead s.blks 2)))) (none)
def LS52_2 {β : Type} (N : Nat) : LSpec β := VLS52_2 N (impl_WeightsFor_l2 N)
def VE52 {β : Type} (N : Nat) (q_impl_isSmall : (a0 : Int) → (a1 : Int) → (a2 : Int) → (k : Bool → Option β) → Option β) (q_impl_Table_threshold : (a0 : Int) → (a1 : Int) → (a2 : List Int) → (k : Int → Bool → Option β) → Option β) (q_impl_sumOfSizes : (a0 : List Int) → (k : Int → Option β) → Option β) (q_impl_WeightsFor_l0 : Nat → Int → Bool → Int → Int → List Int → List Int → (Int → Bool → List Int → Option β) → Option β) (q_impl_WeightsFor_l2 : Nat → Int → Bool → Int → Int → Int → List Int → List Int → (Int → Bool → Int → Int → Int → List Int → List Int → Option β) → Option β) : Env β := ⟨[(51, VS51 N q_impl_isSmall), (92, S92 N), (93, VS93 N q_impl_Table_threshold), (95, S95 N), (94, VS94 N q_impl_sumOfSizes)], [], [(0, VLS52_0 N q_impl_WeightsFor_l0), (2, VLS52_2 N q_impl_WeightsFor_l2)], [], ⟨[], [], []⟩⟩
def E52 {β : Type} (N : Nat) : Env β := VE52 N (impl_isSmall N) (impl_Table_threshold N) (impl_sumOfSizes N) (impl_WeightsFor_l0 N) (impl_WeightsFor_l2 N)
def BV_impl_WeightsFor_l0b {β : Type} (N : Nat) (q_impl_Table_threshold : (a0 : Int) → (a1 : Int) → (a2 : List Int) → (k : Int → Bool → Option β) → Option β) (q_impl_WeightsFor_l2 : Nat → Int → Bool → Int → Int → Int → List Int → List Int → (Int → Bool → Int → Int → Int → List Int → List Int → Option β) → Option β) (q_impl_sumOfSizes : (a0 : List Int) → (k : Int → Option β) → Option β)  (v0 : Int) (v1 : Bool) (v2 : Int) (v3 : Int) (v4 : List Int) (v5 : List Int) (rec_ : Int → Bool → Int → Int → List Int → List Int → Option β) (k0 : Int → Bool → List Int → Option β) : Option β :=
q_impl_Table_threshold v2 v3 v4 fun r7 r8 =>
(cond r8
((cond (!v1)
(slices_Clone_Sint_int N v4 fun r9 =>
q_impl_WeightsFor_l2  N r7 true ((w64 (v2 - 1))) v2 v3 v4 r9 (fun e10_0 e10_1 e10_2 e10_3 e10_4 e10_5 e10_6 =>
(cond ((decide (e10_2 < 0)))
(k0 e10_0 e10_1 e10_6)
((gd ((decide (0 ≤ e10_2)))
((gd ((decide (e10_2 < (e10_5.length : Int))))
((gd ((decide (0 ≤ e10_2)))
((gd ((decide (e10_2 < (e10_5.length : Int))))
(rec_ e10_0 e10_1 e10_3 e10_4 ((wr e10_5 e10_2 (w64 ((rd 0 e10_5 e10_2) + 1)))) e10_6))))))))))))
(q_impl_sumOfSizes v4 fun r11 =>
q_impl_sumOfSizes v5 fun r12 =>
(cond ((decide (r11 < r12)))
(slices_Clone_Sint_int N v4 fun r13 =>
q_impl_WeightsFor_l2  N r7 true ((w64 (v2 - 1))) v2 v3 v4 r13 (fun e14_0 e14_1 e14_2 e14_3 e14_4 e14_5 e14_6 =>
(cond ((decide (e14_2 < 0)))
(k0 e14_0 e14_1 e14_6)
((gd ((decide (0 ≤ e14_2)))
((gd ((decide (e14_2 < (e14_5.length : Int))))
((gd ((decide (0 ≤ e14_2)))
((gd ((decide (e14_2 < (e14_5.length : Int))))
(rec_ e14_0 e14_1 e14_3 e14_4 ((wr e14_5 e14_2 (w64 ((rd 0 e14_5 e14_2) + 1)))) e14_6))))))))))))
(q_impl_WeightsFor_l2  N v0 v1 ((w64 (v2 - 1))) v2 v3 v4 v5 (fun e15_0 e15_1 e15_2 e15_3 e15_4 e15_5 e15_6 =>
(cond ((decide (e15_2 < 0)))
(k0 e15_0 e15_1 e15_6)
((gd ((decide (0 ≤ e15_2)))
((gd ((decide (e15_2 < (e15_5.length : Int))))
((gd ((decide (0 ≤ e15_2)))
((gd ((decide (e15_2 < (e15_5.length : Int))))
(rec_ e15_0 e15_1 e15_3 e15_4 ((wr e15_5 e15_2 (w64 ((rd 0 e15_5 e15_2) + 1)))) e15_6))))))))))))))))
(q_impl_WeightsFor_l2  N v0 v1 ((w64 (v2 - 1))) v2 v3 v4 v5 (fun e16_0 e16_1 e16_2 e16_3 e16_4 e16_5 e16_6 =>
(cond ((decide (e16_2 < 0)))
(k0 e16_0 e16_1 e16_6)
((gd ((decide (0 ≤ e16_2)))
((gd ((decide (e16_2 < (e16_5.length : Int))))
((gd ((decide (0 ≤ e16_2)))
((gd ((decide (e16_2 < (e16_5.length : Int))))
(rec_ e16_0 e16_1 e16_3 e16_4 ((wr e16_5 e16_2 (w64 ((rd 0 e16_5 e16_2) + 1)))) e16_6)))))))))))))
theorem t_impl_WeightsFor_l0b {β : Type} (N : Nat)  (v0 : Int) (v1 : Bool) (v2 : Int) (v3 : Int) (v4 : List Int) (v5 : List Int) (rec_ : Int → Bool → Int → Int → List Int → List Int → Option β) (k0 : Int → Bool → List Int → Option β) : impl_WeightsFor_l0b N v0 v1 v2 v3 v4 v5 rec_ k0 = BV_impl_WeightsFor_l0b N (impl_Table_threshold N) (impl_WeightsFor_l2 N) (impl_sumOfSizes N) v0 v1 v2 v3 v4 v5 rec_ k0 := by
  unfold impl_WeightsFor_l0b BV_impl_WeightsFor_l0b
  rfl
theorem vst52_0_0 {β : Type} (N : Nat) (q_impl_isSmall : (a0 : Int) → (a1 : Int) → (a2 : Int) → (k : Bool → Option β) → Option β) (q_impl_Table_threshold : (a0 : Int) → (a1 : Int) → (a2 : List Int) → (k : Int → Bool → Option β) → Option β) (q_impl_sumOfSizes : (a0 : List Int) → (k : Int → Option β) → Option β) (q_impl_WeightsFor_l0 : Nat → Int → Bool → Int → Int → List Int → List Int → (Int → Bool → List Int → Option β) → Option β) (q_impl_WeightsFor_l2 : Nat → Int → Bool → Int → Int → Int → List Int → List Int → (Int → Bool → Int → Int → Int → List Int → List Int → Option β) → Option β)  (v0 : Int) (v1 : Bool) (v2 : Int) (v3 : Int) (v4 : List Int) (v5 : List Int) (rec_ : St → Option β) (K : Exit → St → Option β) :
    ev lay (VE52 N q_impl_isSmall q_impl_Table_threshold q_impl_sumOfSizes q_impl_WeightsFor_l0 q_impl_WeightsFor_l2) (retMask Try.f52) (lp Try.f52 0).body (lp Try.f52 0).ex ((lp Try.f52 0).lv (retMask Try.f52)) (h52_0_0  v0 v1 v2 v3 v4 v5) (nextR (fun s' => rec_ (s'.tidy ((lp Try.f52 0).lv (retMask Try.f52)))) K) = BV_impl_WeightsFor_l0b N q_impl_Table_threshold q_impl_WeightsFor_l2 q_impl_sumOfSizes  v0 v1 v2 v3 v4 v5 (fun v0 v1 v2 v3 v4 v5 => rec_ (h52_0_0  v0 v1 v2 v3 v4 v5)) (fun y0 y1 y2 => K .ret (x52_0_0_k0  y0 y1 y2)) := by kernel_rfl
theorem st52_0_0 {β : Type} (N : Nat)  (v0 : Int) (v1 : Bool) (v2 : Int) (v3 : Int) (v4 : List Int) (v5 : List Int) (rec_ : St → Option β) (K : Exit → St → Option β) :
    ev lay (E52 N) (retMask Try.f52) (lp Try.f52 0).body (lp Try.f52 0).ex ((lp Try.f52 0).lv (retMask Try.f52)) (h52_0_0  v0 v1 v2 v3 v4 v5) (nextR (fun s' => rec_ (s'.tidy ((lp Try.f52 0).lv (retMask Try.f52)))) K) = impl_WeightsFor_l0b N  v0 v1 v2 v3 v4 v5 (fun v0 v1 v2 v3 v4 v5 => rec_ (h52_0_0  v0 v1 v2 v3 v4 v5)) (fun y0 y1 y2 => K .ret (x52_0_0_k0  y0 y1 y2)) := (vst52_0_0 N (impl_isSmall N) (impl_Table_threshold N) (impl_sumOfSizes N) (impl_WeightsFor_l0 N) (impl_WeightsFor_l2 N) v0 v1 v2 v3 v4 v5 rec_ K).trans (t_impl_WeightsFor_l0b N  v0 v1 v2 v3 v4 v5 (fun v0 v1 v2 v3 v4 v5 => rec_ (h52_0_0  v0 v1 v2 v3 v4 v5)) (fun y0 y1 y2 => K .ret (x52_0_0_k0  y0 y1 y2))).symm
theorem ro52_0_0 {β : Type} (N : Nat)  (K : Exit → St → Option β) : ∀ (F : Nat) (v0 : Int) (v1 : Bool) (v2 : Int) (v3 : Int) (v4 : List Int) (v5 : List Int), (lp Try.f52 0).rounds lay (E52 N) (retMask Try.f52) F (h52_0_0  v0 v1 v2 v3 v4 v5) K = impl_WeightsFor_l0 N  F v0 v1 v2 v3 v4 v5 (fun y0 y1 y2 => K .ret (x52_0_0_k0  y0 y1 y2)) := by
  intro F
  induction F with
  | zero => intros; rfl
  | succ F ih =>
    intros
    rw [rounds_next]
    refine (st52_0_0 N  _ _ _ _ _ _ (fun s => (lp Try.f52 0).rounds lay (E52 N) (retMask Try.f52) F s K) K).trans ?_
    simp only [ih]
    rfl
theorem lk52_0 {β : Type} (N : Nat) : lookL (E52 (β := β) N).loops (lp Try.f52 0).id = LS52_0 N := by kernel_rfl
theorem rk52_0 {β : Type} (N : Nat) : RoundsOK lay (E52 (β := β) N) (retMask Try.f52) (lp Try.f52 0) := by
  intro s K r h
  rw [lk52_0] at h
  unfold LS52_0 VLS52_0 at h
  cases hb : shpSt (h52_0_0 0 false 0 0 [] []) s with
  | true =>
    rw [hb, cond_true] at h
    exact ⟨N, by rw [← shpSt_ref hb, fl52_0_0 s]; exact (ro52_0_0 N  K N (intS (oneA (vT (nx tund s.tmps 7)))) (boolS (oneA (vT (nx tund s.tmps 8)))) (intS (nx .und (cellsB (nx .dead s.blks 0)) 0)) (intS (nx .und (cellsB (nx .dead s.blks 0)) 1)) (rInts (rowB_ (nx .dead s.blks 1))) (rInts (rowB_ (nx .dead s.blks 2)))).trans h⟩
  | false =>
  rw [hb, cond_false] at h
  clear hb
  cases h
def BV_impl_WeightsFor_l2b {β : Type} (N : Nat)  (v0 : Int) (v1 : Bool) (v2 : Int) (v3 : Int) (v4 : Int) (v5 : List Int) (v6 : List Int) (rec_ : Int → Bool → Int → Int → Int → List Int → List Int → Option β) (k0 : Int → Bool → Int → Int → Int → List Int → List Int → Option β) : Option β :=
(cond ((decide (v2 ≥ 0)))
((gd ((decide (0 ≤ v2)))
((gd ((decide (v2 < (v5.length : Int))))
((cond (((rd 0 v5 v2) == 3))
((gd ((decide (0 ≤ v2)))
((gd ((decide (v2 < (v5.length : Int))))
(rec_ v0 v1 ((w64 (v2 - 1))) v3 v4 ((wr v5 v2 (-3))) v6)))))
(k0 v0 v1 v2 v3 v4 v5 v6)))))))
(k0 v0 v1 v2 v3 v4 v5 v6))
theorem t_impl_WeightsFor_l2b {β : Type} (N : Nat)  (v0 : Int) (v1 : Bool) (v2 : Int) (v3 : Int) (v4 : Int) (v5 : List Int) (v6 : List Int) (rec_ : Int → Bool → Int → Int → Int → List Int → List Int → Option β) (k0 : Int → Bool → Int → Int → Int → List Int → List Int → Option β) : impl_WeightsFor_l2b N v0 v1 v2 v3 v4 v5 v6 rec_ k0 = BV_impl_WeightsFor_l2b N v0 v1 v2 v3 v4 v5 v6 rec_ k0 := by
  unfold impl_WeightsFor_l2b BV_impl_WeightsFor_l2b
  rfl
theorem vst52_1_0 {β : Type} (N : Nat) (q_impl_isSmall : (a0 : Int) → (a1 : Int) → (a2 : Int) → (k : Bool → Option β) → Option β) (q_impl_Table_threshold : (a0 : Int) → (a1 : Int) → (a2 : List Int) → (k : Int → Bool → Option β) → Option β) (q_impl_sumOfSizes : (a0 : List Int) → (k : Int → Option β) → Option β) (q_impl_WeightsFor_l0 : Nat → Int → Bool → Int → Int → List Int → List Int → (Int → Bool → List Int → Option β) → Option β) (q_impl_WeightsFor_l2 : Nat → Int → Bool → Int → Int → Int → List Int → List Int → (Int → Bool → Int → Int → Int → List Int → List Int → Option β) → Option β)  (v0 : Int) (v1 : Bool) (v2 : Int) (v3 : Int) (v4 : Int) (v5 : List Int) (v6 : List Int) (rec_ : St → Option β) (K : Exit → St → Option β) :
    ev lay (VE52 N q_impl_isSmall q_impl_Table_threshold q_impl_sumOfSizes q_impl_WeightsFor_l0 q_impl_WeightsFor_l2) (retMask Try.f52) (lp Try.f52 1).body (lp Try.f52 1).ex ((lp Try.f52 1).lv (retMask Try.f52)) (h52_1_0  v0 v1 v2 v3 v4 v5 v6) (nextR (fun s' => rec_ (s'.tidy ((lp Try.f52 1).lv (retMask Try.f52)))) K) = BV_impl_WeightsFor_l2b N  v0 v1 v2 v3 v4 v5 v6 (fun v0 v1 v2 v3 v4 v5 v6 => rec_ (h52_1_0  v0 v1 v2 v3 v4 v5 v6)) (fun y0 y1 y2 y3 y4 y5 y6 => K (.exit 2) (x52_1_0_k0  y0 y1 y2 y3 y4 y5 y6)) := by kernel_rfl
theorem st52_1_0 {β : Type} (N : Nat)  (v0 : Int) (v1 : Bool) (v2 : Int) (v3 : Int) (v4 : Int) (v5 : List Int) (v6 : List Int) (rec_ : St → Option β) (K : Exit → St → Option β) :
    ev lay (E52 N) (retMask Try.f52) (lp Try.f52 1).body (lp Try.f52 1).ex ((lp Try.f52 1).lv (retMask Try.f52)) (h52_1_0  v0 v1 v2 v3 v4 v5 v6) (nextR (fun s' => rec_ (s'.tidy ((lp Try.f52 1).lv (retMask Try.f52)))) K) = impl_WeightsFor_l2b N  v0 v1 v2 v3 v4 v5 v6 (fun v0 v1 v2 v3 v4 v5 v6 => rec_ (h52_1_0  v0 v1 v2 v3 v4 v5 v6)) (fun y0 y1 y2 y3 y4 y5 y6 => K (.exit 2) (x52_1_0_k0  y0 y1 y2 y3 y4 y5 y6)) := (vst52_1_0 N (impl_isSmall N) (impl_Table_threshold N) (impl_sumOfSizes N) (impl_WeightsFor_l0 N) (impl_WeightsFor_l2 N) v0 v1 v2 v3 v4 v5 v6 rec_ K).trans (t_impl_WeightsFor_l2b N  v0 v1 v2 v3 v4 v5 v6 (fun v0 v1 v2 v3 v4 v5 v6 => rec_ (h52_1_0  v0 v1 v2 v3 v4 v5 v6)) (fun y0 y1 y2 y3 y4 y5 y6 => K (.exit 2) (x52_1_0_k0  y0 y1 y2 y3 y4 y5 y6))).symm
theorem ro52_1_0 {β : Type} (N : Nat)  (K : Exit → St → Option β) : ∀ (F : Nat) (v0 : Int) (v1 : Bool) (v2 : Int) (v3 : Int) (v4 : Int) (v5 : List Int) (v6 : List Int), (lp Try.f52 1).rounds lay (E52 N) (retMask Try.f52) F (h52_1_0  v0 v1 v2 v3 v4 v5 v6) K = impl_WeightsFor_l2 N  F v0 v1 v2 v3 v4 v5 v6 (fun y0 y1 y2 y3 y4 y5 y6 => K (.exit 2) (x52_1_0_k0  y0 y1 y2 y3 y4 y5 y6)) := by
  intro F
  induction F with
  | zero => intros; rfl
  | succ F ih =>
    intros
    rw [rounds_next]
    refine (st52_1_0 N  _ _ _ _ _ _ _ (fun s => (lp Try.f52 1).rounds lay (E52 N) (retMask Try.f52) F s K) K).trans ?_
    simp only [ih]
    rfl
theorem lk52_2 {β : Type} (N : Nat) : lookL (E52 (β := β) N).loops (lp Try.f52 1).id = LS52_2 N := by kernel_rfl
theorem rk52_2 {β : Type} (N : Nat) : RoundsOK lay (E52 (β := β) N) (retMask Try.f52) (lp Try.f52 1) := by
  intro s K r h
  rw [lk52_2] at h
  unfold LS52_2 VLS52_2 at h
  cases hb : shpSt (h52_1_0 0 false 0 0 0 [] []) s with
  | true =>
    rw [hb, cond_true] at h
    exact ⟨N, by rw [← shpSt_ref hb, fl52_1_0 s]; exact (ro52_1_0 N  K N (intS (oneA (vT (nx tund s.tmps 7)))) (boolS (oneA (vT (nx tund s.tmps 8)))) (intS (oneA (vT (nx tund s.tmps 11)))) (intS (nx .und (cellsB (nx .dead s.blks 0)) 0)) (intS (nx .und (cellsB (nx .dead s.blks 0)) 1)) (rInts (rowB_ (nx .dead s.blks 1))) (rInts (rowB_ (nx .dead s.blks 2)))).trans h⟩
  | false =>
  rw [hb, cond_false] at h
  clear hb
  cases h
def BV_impl_WeightsFor {β : Type} (N : Nat) (q_impl_isSmall : (a0 : Int) → (a1 : Int) → (a2 : Int) → (k : Bool → Option β) → Option β) (q_impl_WeightsFor_l0 : Nat → Int → Bool → Int → Int → List Int → List Int → (Int → Bool → List Int → Option β) → Option β) (a0 : Int) (a1 : Int) (k : List Int → Int → Bool → Option β) : Option β :=
q_impl_isSmall a0 a1 4 fun r5 =>
(cond (!r5)
(k (([] : List Int)) 0 false)
(slices_Repeat_Sint_int N ((([] : List Int) ++ [(-3)])) a0 fun r6 =>
q_impl_WeightsFor_l0  N 0 false a0 a1 r6 (([] : List Int)) (fun e17_0 e17_1 e17_2 =>
k e17_2 e17_0 e17_1)))
theorem t_impl_WeightsFor {β : Type} (N : Nat) (a0 : Int) (a1 : Int) (k : List Int → Int → Bool → Option β) : impl_WeightsFor N a0 a1 k = BV_impl_WeightsFor N (impl_isSmall N) (impl_WeightsFor_l0 N) a0 a1 k := by
  unfold impl_WeightsFor BV_impl_WeightsFor
  rfl
theorem ve52_0 {β : Type} (N : Nat) (q_impl_isSmall : (a0 : Int) → (a1 : Int) → (a2 : Int) → (k : Bool → Option β) → Option β) (q_impl_Table_threshold : (a0 : Int) → (a1 : Int) → (a2 : List Int) → (k : Int → Bool → Option β) → Option β) (q_impl_sumOfSizes : (a0 : List Int) → (k : Int → Option β) → Option β) (q_impl_WeightsFor_l0 : Nat → Int → Bool → Int → Int → List Int → List Int → (Int → Bool → List Int → Option β) → Option β) (q_impl_WeightsFor_l2 : Nat → Int → Bool → Int → Int → Int → List Int → List Int → (Int → Bool → Int → Int → Int → List Int → List Int → Option β) → Option β)  (a0 : Int) (a1 : Int) (K : TV → Option β) : evFn lay (VE52 N q_impl_isSmall q_impl_Table_threshold q_impl_sumOfSizes q_impl_WeightsFor_l0 q_impl_WeightsFor_l2) Try.f52 [.v (.agg [.int .i64 a0, .int .i64 a1])] K = BV_impl_WeightsFor N q_impl_isSmall q_impl_WeightsFor_l0 a0 a1 (fun z2 z3 z4 => K (.tup [.one (.sl 3 (.ints .i64 z2)), .one (.int .i64 z3), .one (.bool z4)])) := by kernel_rfl
theorem e52_0 {β : Type} (N : Nat)  (a0 : Int) (a1 : Int) (K : TV → Option β) : evFn lay (E52 N) Try.f52 [.v (.agg [.int .i64 a0, .int .i64 a1])] K = impl_WeightsFor N a0 a1 (fun z2 z3 z4 => K (.tup [.one (.sl 3 (.ints .i64 z2)), .one (.int .i64 z3), .one (.bool z4)])) := (ve52_0 N (impl_isSmall N) (impl_Table_threshold N) (impl_sumOfSizes N) (impl_WeightsFor_l0 N) (impl_WeightsFor_l2 N) a0 a1 K).trans (t_impl_WeightsFor N a0 a1 (fun z2 z3 z4 => K (.tup [.one (.sl 3 (.ints .i64 z2)), .one (.int .i64 z3), .one (.bool z4)]))).symm
theorem o52 {β : Type} (N : Nat) : SpecOK (β := β) inv Try.prog 52 (S52 N) := by
  refine spec_of lay_ok mixed (E := E52 N) (specs_loops (specs_cons (o51 N) (specs_cons (o92 N) (specs_cons (o93 N) (specs_cons (o95 N) (specs_cons (o94 N) specs_nil)))))) muts_nil gs_nil Try.func52 (by kernel_rfl) 2 (by kernel_rfl) ⟨⟨trivial, rk52_0 N⟩, rk52_2 N⟩ fun args K r h => ?_
  unfold S52 VS52 at h
  split at h
  · exact (e52_0 N _ _ _).trans h
  · cases h
def VS98 {β : Type} (N : Nat) (q_impl_isContradiction : (a0 : Int) → (a1 : Int) → (a2 : Int) → (a3 : Int) → (k : Bool → Option β) → Option β) : Rv.Spec β := fun args K => match args with
  | [.v (.one (.int .i64 a0)), .v (.one (.int .i64 a1)), .v (.one (.int .i64 a2)), .v (.one (.int .i64 a3))] => q_impl_isContradiction a0 a1 a2 a3 (fun z4 => K (.v (.one (.bool z4))))
  | _ => none
def S98 {β : Type} (N : Nat) : Rv.Spec β := VS98 N (impl_isContradiction N)
def VE98 {β : Type} (N : Nat) : Env β := ⟨[], [], [], [], ⟨[], [], []⟩⟩
def E98 {β : Type} (N : Nat) : Env β := VE98 N
def BV_impl_isContradiction {β : Type} (N : Nat) (a0 : Int) (a1 : Int) (a2 : Int) (a3 : Int) (k : Bool → Option β) : Option β :=
(cond (((bits .and .i64 a0 a1) == (bits .and .i64 a2 a3)))
(k (((bits .xor .i64 a0 a1) == (bits .xor .i64 a2 a3))))
(k false))
theorem t_impl_isContradiction {β : Type} (N : Nat) (a0 : Int) (a1 : Int) (a2 : Int) (a3 : Int) (k : Bool → Option β) : impl_isContradiction N a0 a1 a2 a3 k = BV_impl_isContradiction N a0 a1 a2 a3 k := by
  unfold impl_isContradiction BV_impl_isContradiction
  rfl
theorem ve98_0 {β : Type} (N : Nat)  (a0 : Int) (a1 : Int) (a2 : Int) (a3 : Int) (K : TV → Option β) : evFn lay (VE98 N) Try.f98 [.v (.one (.int .i64 a0)), .v (.one (.int .i64 a1)), .v (.one (.int .i64 a2)), .v (.one (.int .i64 a3))] K = BV_impl_isContradiction N a0 a1 a2 a3 (fun z4 => K (.v (.one (.bool z4)))) := by kernel_rfl
theorem e98_0 {β : Type} (N : Nat)  (a0 : Int) (a1 : Int) (a2 : Int) (a3 : Int) (K : TV → Option β) : evFn lay (E98 N) Try.f98 [.v (.one (.int .i64 a0)), .v (.one (.int .i64 a1)), .v (.one (.int .i64 a2)), .v (.one (.int .i64 a3))] K = impl_isContradiction N a0 a1 a2 a3 (fun z4 => K (.v (.one (.bool z4)))) := (ve98_0 N a0 a1 a2 a3 K).trans (t_impl_isContradiction N a0 a1 a2 a3 (fun z4 => K (.v (.one (.bool z4))))).symm
theorem o98 {β : Type} (N : Nat) : SpecOK (β := β) inv Try.prog 98 (S98 N) := by
  refine spec_of lay_ok mixed (E := E98 N) (specs_loops specs_nil) muts_nil gs_nil Try.func98 (by kernel_rfl) 0 (by kernel_rfl) trivial fun args K r h => ?_
  unfold S98 VS98 at h
  split at h
  · exact (e98_0 N _ _ _ _ _).trans h
  · cases h
end Go.Proofs.Ytfdggelojmofmaa
