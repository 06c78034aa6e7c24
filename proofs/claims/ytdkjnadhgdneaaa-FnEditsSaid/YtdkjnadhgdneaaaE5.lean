/- The functions that the claims reach answer as their texts do. -/
import Derived.Test.YtdkjnadhgdneaaaE4
namespace Go.Proofs.Ytdkjnadhgdneaaa
open Go.Rv
set_option maxRecDepth 100000
set_option maxHeartbeats 2000000
set_option linter.unusedVariables false
def VS17 {β : Type} (N : Nat) (q_impl_FlipAll : (a0 : Int) → (a1 : Int) → (a2 : Int) → (a3 : List Int) → (a4 : List Int) → (k : Int → Int → Int → List Int → Bool → Option β) → Option β) : Rv.Spec β := fun args K => match args with
  | [.v (.agg [.int .i64 a0, .int .i64 a1, .int .i64 a2, .sl 3 (.ints .i64 a3)]), .v (.one (.sl 3 (.ints .i64 a4)))] => q_impl_FlipAll a0 a1 a2 a3 a4 (fun z5 z6 z7 z8 z9 => K (.tup [.agg [.int .i64 z5, .int .i64 z6, .int .i64 z7, .sl 3 (.ints .i64 z8)], .one (.bool z9)]))
  | _ => none
def S17 {β : Type} (N : Nat) : Rv.Spec β := VS17 N (impl_FlipAll N)
def h17_0_0  (v0 : List Int) (v1 : Int) (v2 : Int) (v3 : Int) (v4 : Int) (v5 : Int) (v6 : Int) (v7 : Int) (v8 : List Int) : St := ⟨.v (.one .und) :: .v (.one .und) :: .v (.one .und) :: .v (.one .und) :: .v (.one (.ptr 0 0)) :: .v (.one .und) :: .v (.one (.ptr 1 0)) :: .v (.one .und) :: .v (.one .und) :: .v (.one .und) :: .v (.one .und) :: .v (.one .und) :: .v (.one .und) :: .v (.one .und) :: .v (.one .und) :: .v (.one .und) :: .v (.one .und) :: .v (.one .und) :: .v (.one .und) :: .v (.one .und) :: .v (.one (.sl 3 (.ints .i64 v0))) :: .v (.one (.int .i64 v1)) :: .v (.one (.int .i64 v2)) :: .v (.one .und) :: .v (.one .und) :: .v (.one .und) :: .v (.one .und) :: .v (.one .und) :: .v (.one .und) :: .v (.one .und) :: .v (.one .und) :: .v (.one .und) :: .v (.one .und) :: .v (.one .und) :: .v (.one .und) :: .v (.one .und) :: .v (.one .und) :: .v (.one .und) :: .v (.one .und) :: .v (.one .und) :: .v (.one .und) :: [], [.cells 28 [.int .i64 v3, .int .i64 v4, .int .i64 v5, .row 2], .cells 25 [.int .i64 v6, .int .i64 v7], .row 3 (.ints .i64 v8)]⟩
def x17_0_0_k0  (y0 : Bool) (y1 : Int) (y2 : Int) (y3 : Int) (y4 : List Int) : St := ⟨.v (.one .und) :: .v (.one .und) :: .v (.one .und) :: .v (.one .und) :: .v (.one (.ptr 0 0)) :: .v (.one (.bool y0)) :: .v (.one .und) :: .v (.one .und) :: .v (.one .und) :: .v (.one .und) :: .v (.one .und) :: .v (.one .und) :: .v (.one .und) :: .v (.one .und) :: .v (.one .und) :: .v (.one .und) :: .v (.one .und) :: .v (.one .und) :: .v (.one .und) :: .v (.one .und) :: .v (.one .und) :: .v (.one .und) :: .v (.one .und) :: .v (.one .und) :: .v (.one .und) :: .v (.one .und) :: .v (.one .und) :: .v (.one .und) :: .v (.one .und) :: .v (.one .und) :: .v (.one .und) :: .v (.one .und) :: .v (.one .und) :: .v (.one .und) :: .v (.one .und) :: .v (.one .und) :: .v (.one .und) :: .v (.one .und) :: .v (.one .und) :: .v (.one .und) :: .v (.one .und) :: [], [.cells 28 [.int .i64 y1, .int .i64 y2, .int .i64 y3, .row 1], .row 3 (.ints .i64 y4)]⟩
def x17_0_0_k1  (y0 : Int) (y1 : Int) (y2 : Int) (y3 : Int) (y4 : Int) (y5 : List Int) : St := ⟨.v (.one .und) :: .v (.one .und) :: .v (.one .und) :: .v (.one .und) :: .v (.one (.ptr 0 0)) :: .v (.one .und) :: .v (.one (.ptr 1 0)) :: .v (.one .und) :: .v (.one .und) :: .v (.one .und) :: .v (.one .und) :: .v (.one .und) :: .v (.one .und) :: .v (.one .und) :: .v (.one .und) :: .v (.one .und) :: .v (.one .und) :: .v (.one .und) :: .v (.one .und) :: .v (.one .und) :: .v (.one .und) :: .v (.one .und) :: .v (.one .und) :: .v (.one .und) :: .v (.one .und) :: .v (.one .und) :: .v (.one .und) :: .v (.one .und) :: .v (.one .und) :: .v (.one .und) :: .v (.one .und) :: .v (.one .und) :: .v (.one .und) :: .v (.one .und) :: .v (.one .und) :: .v (.one .und) :: .v (.one .und) :: .v (.one .und) :: .v (.one .und) :: .v (.one .und) :: .v (.one .und) :: [], [.cells 28 [.int .i64 y0, .int .i64 y1, .int .i64 y2, .row 2], .cells 25 [.int .i64 y3, .int .i64 y4], .row 3 (.ints .i64 y5)]⟩
theorem fl17_0_0 (s : St) : refSt (h17_0_0 [] 0 0 0 0 0 0 0 []) s = h17_0_0 (rInts (rowV (oneA (vT (nx tund s.tmps 20))))) (intS (oneA (vT (nx tund s.tmps 21)))) (intS (oneA (vT (nx tund s.tmps 22)))) (intS (nx .und (cellsB (nx .dead s.blks 0)) 0)) (intS (nx .und (cellsB (nx .dead s.blks 0)) 1)) (intS (nx .und (cellsB (nx .dead s.blks 0)) 2)) (intS (nx .und (cellsB (nx .dead s.blks 1)) 0)) (intS (nx .und (cellsB (nx .dead s.blks 1)) 1)) (rInts (rowB_ (nx .dead s.blks 2))) := by kernel_rfl
def VLS17_0 {β : Type} (N : Nat) (q_impl_FlipAll_l0 : Nat → List Int → Int → Int → Int → Int → Int → Int → Int → List Int → (Bool → Int → Int → Int → List Int → Option β) → (Int → Int → Int → Int → Int → List Int → Option β) → Option β) : LSpec β := fun s K => cond (shpSt (h17_0_0 [] 0 0 0 0 0 0 0 []) s) ((fun (v0 : List Int) (v1 : Int) (v2 : Int) (v3 : Int) (v4 : Int) (v5 : Int) (v6 : Int) (v7 : Int) (v8 : List Int) => q_impl_FlipAll_l0  N v0 v1 v2 v3 v4 v5 v6 v7 v8 (fun y0 y1 y2 y3 y4 => K .ret (x17_0_0_k0  y0 y1 y2 y3 y4)) (fun y0 y1 y2 y3 y4 y5 => K (.exit 0) (x17_0_0_k1  y0 y1 y2 y3 y4 y5))) (rInts (rowV (oneA (vT (nx tund s.tmps 20))))) (intS (oneA (vT (nx tund s.tmps 21)))) (intS (oneA (vT (nx tund s.tmps 22)))) (intS (nx .und (cellsB (nx .dead s.blks 0)) 0)) (intS (nx .und (cellsB (nx .dead s.blks 0)) 1)) (intS (nx .und (cellsB (nx .dead s.blks 0)) 2)) (intS (nx .und (cellsB (nx .dead s.blks 1)) 0)) (intS (nx .und (cellsB (nx .dead s.blks 1)) 1)) (rInts (rowB_ (nx .dead s.blks 2)))) (none)
def LS17_0 {β : Type} (N : Nat) : LSpec β := VLS17_0 N (impl_FlipAll_l0 N)
def VE17 {β : Type} (N : Nat) (q_impl_IsKept : (a0 : Int) → (a1 : Int) → (a2 : Int) → (a3 : List Int) → (k : Bool → Option β) → Option β) (q_impl_isInput : (a0 : Int) → (a1 : Int) → (k : Bool → Option β) → Option β) (q_impl_Table_kept : (a0 : Int) → (a1 : Int) → (k : Int → Int → Int → List Int → Option β) → Option β) (q_impl_FlipAll_l0 : Nat → List Int → Int → Int → Int → Int → Int → Int → Int → List Int → (Bool → Int → Int → Int → List Int → Option β) → (Int → Int → Int → Int → Int → List Int → Option β) → Option β) : Env β := ⟨[(14, VS14 N q_impl_IsKept), (67, VS67 N q_impl_isInput), (62, VS62 N q_impl_Table_kept)], [], [(0, VLS17_0 N q_impl_FlipAll_l0)], []⟩
def E17 {β : Type} (N : Nat) : Env β := VE17 N (impl_IsKept N) (impl_isInput N) (impl_Table_kept N) (impl_FlipAll_l0 N)
def BV_impl_FlipAll_l0b {β : Type} (N : Nat) (q_impl_isInput : (a0 : Int) → (a1 : Int) → (k : Bool → Option β) → Option β)  (v0 : List Int) (v1 : Int) (v2 : Int) (v3 : Int) (v4 : Int) (v5 : Int) (v6 : Int) (v7 : Int) (v8 : List Int) (rec_ : List Int → Int → Int → Int → Int → Int → Int → Int → List Int → Option β) (k0 : Bool → Int → Int → Int → List Int → Option β) (k1 : Int → Int → Int → Int → Int → List Int → Option β) : Option β :=
(cond ((decide (v2 < v1)))
((gd ((decide (0 ≤ v2)))
((gd ((decide (v2 < (v0.length : Int))))
(q_impl_isInput v6 ((rd 0 v0 v2)) fun r11 =>
(cond (!r11)
(k0 false 0 0 0 (([] : List Int)))
((gd ((decide (0 ≤ (rd 0 v0 v2))))
(rec_ v0 v1 ((w64 (v2 + 1))) v3 v4 v5 v6 ((bits .xor .i64 v7 (shlI .i64 1 (rd 0 v0 v2)))) v8)))))))))
(k1 v3 v4 v5 v6 v7 v8))
theorem t_impl_FlipAll_l0b {β : Type} (N : Nat)  (v0 : List Int) (v1 : Int) (v2 : Int) (v3 : Int) (v4 : Int) (v5 : Int) (v6 : Int) (v7 : Int) (v8 : List Int) (rec_ : List Int → Int → Int → Int → Int → Int → Int → Int → List Int → Option β) (k0 : Bool → Int → Int → Int → List Int → Option β) (k1 : Int → Int → Int → Int → Int → List Int → Option β) : impl_FlipAll_l0b N v0 v1 v2 v3 v4 v5 v6 v7 v8 rec_ k0 k1 = BV_impl_FlipAll_l0b N (impl_isInput N) v0 v1 v2 v3 v4 v5 v6 v7 v8 rec_ k0 k1 := by
  unfold impl_FlipAll_l0b BV_impl_FlipAll_l0b
  rfl
theorem vst17_0_0 {β : Type} (N : Nat) (q_impl_IsKept : (a0 : Int) → (a1 : Int) → (a2 : Int) → (a3 : List Int) → (k : Bool → Option β) → Option β) (q_impl_isInput : (a0 : Int) → (a1 : Int) → (k : Bool → Option β) → Option β) (q_impl_Table_kept : (a0 : Int) → (a1 : Int) → (k : Int → Int → Int → List Int → Option β) → Option β) (q_impl_FlipAll_l0 : Nat → List Int → Int → Int → Int → Int → Int → Int → Int → List Int → (Bool → Int → Int → Int → List Int → Option β) → (Int → Int → Int → Int → Int → List Int → Option β) → Option β)  (v0 : List Int) (v1 : Int) (v2 : Int) (v3 : Int) (v4 : Int) (v5 : Int) (v6 : Int) (v7 : Int) (v8 : List Int) (rec_ : St → Option β) (K : Exit → St → Option β) :
    ev lay (VE17 N q_impl_IsKept q_impl_isInput q_impl_Table_kept q_impl_FlipAll_l0) (retMask Try.f17) (lp Try.f17 0).body (lp Try.f17 0).ex ((lp Try.f17 0).lv (retMask Try.f17)) (h17_0_0  v0 v1 v2 v3 v4 v5 v6 v7 v8) (nextR (fun s' => rec_ (s'.tidy ((lp Try.f17 0).lv (retMask Try.f17)))) K) = BV_impl_FlipAll_l0b N q_impl_isInput  v0 v1 v2 v3 v4 v5 v6 v7 v8 (fun v0 v1 v2 v3 v4 v5 v6 v7 v8 => rec_ (h17_0_0  v0 v1 v2 v3 v4 v5 v6 v7 v8)) (fun y0 y1 y2 y3 y4 => K .ret (x17_0_0_k0  y0 y1 y2 y3 y4)) (fun y0 y1 y2 y3 y4 y5 => K (.exit 0) (x17_0_0_k1  y0 y1 y2 y3 y4 y5)) := by kernel_rfl
theorem st17_0_0 {β : Type} (N : Nat)  (v0 : List Int) (v1 : Int) (v2 : Int) (v3 : Int) (v4 : Int) (v5 : Int) (v6 : Int) (v7 : Int) (v8 : List Int) (rec_ : St → Option β) (K : Exit → St → Option β) :
    ev lay (E17 N) (retMask Try.f17) (lp Try.f17 0).body (lp Try.f17 0).ex ((lp Try.f17 0).lv (retMask Try.f17)) (h17_0_0  v0 v1 v2 v3 v4 v5 v6 v7 v8) (nextR (fun s' => rec_ (s'.tidy ((lp Try.f17 0).lv (retMask Try.f17)))) K) = impl_FlipAll_l0b N  v0 v1 v2 v3 v4 v5 v6 v7 v8 (fun v0 v1 v2 v3 v4 v5 v6 v7 v8 => rec_ (h17_0_0  v0 v1 v2 v3 v4 v5 v6 v7 v8)) (fun y0 y1 y2 y3 y4 => K .ret (x17_0_0_k0  y0 y1 y2 y3 y4)) (fun y0 y1 y2 y3 y4 y5 => K (.exit 0) (x17_0_0_k1  y0 y1 y2 y3 y4 y5)) := (vst17_0_0 N (impl_IsKept N) (impl_isInput N) (impl_Table_kept N) (impl_FlipAll_l0 N) v0 v1 v2 v3 v4 v5 v6 v7 v8 rec_ K).trans (t_impl_FlipAll_l0b N  v0 v1 v2 v3 v4 v5 v6 v7 v8 (fun v0 v1 v2 v3 v4 v5 v6 v7 v8 => rec_ (h17_0_0  v0 v1 v2 v3 v4 v5 v6 v7 v8)) (fun y0 y1 y2 y3 y4 => K .ret (x17_0_0_k0  y0 y1 y2 y3 y4)) (fun y0 y1 y2 y3 y4 y5 => K (.exit 0) (x17_0_0_k1  y0 y1 y2 y3 y4 y5))).symm
theorem ro17_0_0 {β : Type} (N : Nat)  (K : Exit → St → Option β) : ∀ (F : Nat) (v0 : List Int) (v1 : Int) (v2 : Int) (v3 : Int) (v4 : Int) (v5 : Int) (v6 : Int) (v7 : Int) (v8 : List Int), (lp Try.f17 0).rounds lay (E17 N) (retMask Try.f17) F (h17_0_0  v0 v1 v2 v3 v4 v5 v6 v7 v8) K = impl_FlipAll_l0 N  F v0 v1 v2 v3 v4 v5 v6 v7 v8 (fun y0 y1 y2 y3 y4 => K .ret (x17_0_0_k0  y0 y1 y2 y3 y4)) (fun y0 y1 y2 y3 y4 y5 => K (.exit 0) (x17_0_0_k1  y0 y1 y2 y3 y4 y5)) := by
  intro F
  induction F with
  | zero => intros; rfl
  | succ F ih =>
    intros
    rw [rounds_next]
    refine (st17_0_0 N  _ _ _ _ _ _ _ _ _ (fun s => (lp Try.f17 0).rounds lay (E17 N) (retMask Try.f17) F s K) K).trans ?_
    simp only [ih]
    rfl
theorem lk17_0 {β : Type} (N : Nat) : lookL (E17 (β := β) N).loops (lp Try.f17 0).id = LS17_0 N := by kernel_rfl
theorem rk17_0 {β : Type} (N : Nat) : RoundsOK lay (E17 (β := β) N) (retMask Try.f17) (lp Try.f17 0) := by
  intro s K r h
  rw [lk17_0] at h
  unfold LS17_0 VLS17_0 at h
  cases hb : shpSt (h17_0_0 [] 0 0 0 0 0 0 0 []) s with
  | true =>
    rw [hb, cond_true] at h
    exact ⟨N, by rw [← shpSt_ref hb, fl17_0_0 s]; exact (ro17_0_0 N  K N (rInts (rowV (oneA (vT (nx tund s.tmps 20))))) (intS (oneA (vT (nx tund s.tmps 21)))) (intS (oneA (vT (nx tund s.tmps 22)))) (intS (nx .und (cellsB (nx .dead s.blks 0)) 0)) (intS (nx .und (cellsB (nx .dead s.blks 0)) 1)) (intS (nx .und (cellsB (nx .dead s.blks 0)) 2)) (intS (nx .und (cellsB (nx .dead s.blks 1)) 0)) (intS (nx .und (cellsB (nx .dead s.blks 1)) 1)) (rInts (rowB_ (nx .dead s.blks 2)))).trans h⟩
  | false =>
  rw [hb, cond_false] at h
  clear hb
  cases h
def BV_impl_FlipAll {β : Type} (N : Nat) (q_impl_IsKept : (a0 : Int) → (a1 : Int) → (a2 : Int) → (a3 : List Int) → (k : Bool → Option β) → Option β) (q_impl_FlipAll_l0 : Nat → List Int → Int → Int → Int → Int → Int → Int → Int → List Int → (Bool → Int → Int → Int → List Int → Option β) → (Int → Int → Int → Int → Int → List Int → Option β) → Option β) (q_impl_Table_kept : (a0 : Int) → (a1 : Int) → (k : Int → Int → Int → List Int → Option β) → Option β) (a0 : Int) (a1 : Int) (a2 : Int) (a3 : List Int) (a4 : List Int) (k : Int → Int → Int → List Int → Bool → Option β) : Option β :=
q_impl_IsKept a0 a1 a2 a3 fun r10 =>
(cond (!r10)
(k 0 0 0 (([] : List Int)) false)
((cond ((decide ((a4.length : Int) > 40)))
(k 0 0 0 (([] : List Int)) false)
(q_impl_FlipAll_l0  N a4 ((a4.length : Int)) 0 0 0 0 a0 a1 (([] : List Int)) (fun e12_0 e12_1 e12_2 e12_3 e12_4 =>
k e12_1 e12_2 e12_3 e12_4 e12_0) (fun e13_0 e13_1 e13_2 e13_3 e13_4 e13_5 =>
q_impl_Table_kept e13_3 e13_4 fun r14 r15 r16 r17 =>
k r14 r15 r16 r17 true)))))
theorem t_impl_FlipAll {β : Type} (N : Nat) (a0 : Int) (a1 : Int) (a2 : Int) (a3 : List Int) (a4 : List Int) (k : Int → Int → Int → List Int → Bool → Option β) : impl_FlipAll N a0 a1 a2 a3 a4 k = BV_impl_FlipAll N (impl_IsKept N) (impl_FlipAll_l0 N) (impl_Table_kept N) a0 a1 a2 a3 a4 k := by
  unfold impl_FlipAll BV_impl_FlipAll
  rfl
theorem ve17_0 {β : Type} (N : Nat) (q_impl_IsKept : (a0 : Int) → (a1 : Int) → (a2 : Int) → (a3 : List Int) → (k : Bool → Option β) → Option β) (q_impl_isInput : (a0 : Int) → (a1 : Int) → (k : Bool → Option β) → Option β) (q_impl_Table_kept : (a0 : Int) → (a1 : Int) → (k : Int → Int → Int → List Int → Option β) → Option β) (q_impl_FlipAll_l0 : Nat → List Int → Int → Int → Int → Int → Int → Int → Int → List Int → (Bool → Int → Int → Int → List Int → Option β) → (Int → Int → Int → Int → Int → List Int → Option β) → Option β)  (a0 : Int) (a1 : Int) (a2 : Int) (a3 : List Int) (a4 : List Int) (K : TV → Option β) : evFn lay (VE17 N q_impl_IsKept q_impl_isInput q_impl_Table_kept q_impl_FlipAll_l0) Try.f17 [.v (.agg [.int .i64 a0, .int .i64 a1, .int .i64 a2, .sl 3 (.ints .i64 a3)]), .v (.one (.sl 3 (.ints .i64 a4)))] K = BV_impl_FlipAll N q_impl_IsKept q_impl_FlipAll_l0 q_impl_Table_kept a0 a1 a2 a3 a4 (fun z5 z6 z7 z8 z9 => K (.tup [.agg [.int .i64 z5, .int .i64 z6, .int .i64 z7, .sl 3 (.ints .i64 z8)], .one (.bool z9)])) := by kernel_rfl
theorem e17_0 {β : Type} (N : Nat)  (a0 : Int) (a1 : Int) (a2 : Int) (a3 : List Int) (a4 : List Int) (K : TV → Option β) : evFn lay (E17 N) Try.f17 [.v (.agg [.int .i64 a0, .int .i64 a1, .int .i64 a2, .sl 3 (.ints .i64 a3)]), .v (.one (.sl 3 (.ints .i64 a4)))] K = impl_FlipAll N a0 a1 a2 a3 a4 (fun z5 z6 z7 z8 z9 => K (.tup [.agg [.int .i64 z5, .int .i64 z6, .int .i64 z7, .sl 3 (.ints .i64 z8)], .one (.bool z9)])) := (ve17_0 N (impl_IsKept N) (impl_isInput N) (impl_Table_kept N) (impl_FlipAll_l0 N) a0 a1 a2 a3 a4 K).trans (t_impl_FlipAll N a0 a1 a2 a3 a4 (fun z5 z6 z7 z8 z9 => K (.tup [.agg [.int .i64 z5, .int .i64 z6, .int .i64 z7, .sl 3 (.ints .i64 z8)], .one (.bool z9)]))).symm
theorem o17 {β : Type} (N : Nat) : SpecOK (β := β) Try.prog 17 (S17 N) := by
  refine spec_of lay_ok mixed (E := E17 N) (specs_loops (specs_cons (o14 N) (specs_cons (o67 N) (specs_cons (o62 N) specs_nil)))) muts_nil gs_nil Try.func17 (by kernel_rfl) 1 (by kernel_rfl) ⟨trivial, rk17_0 N⟩ fun args K r h => ?_
  unfold S17 VS17 at h
  split at h
  · exact (e17_0 N _ _ _ _ _ _).trans h
  · cases h
def VS10 {β : Type} (N : Nat) (q_impl_FlipAt : (a0 : Int) → (a1 : Int) → (a2 : Int) → (a3 : List Int) → (a4 : Int) → (k : Int → Int → Int → List Int → Bool → Option β) → Option β) : Rv.Spec β := fun args K => match args with
  | [.v (.agg [.int .i64 a0, .int .i64 a1, .int .i64 a2, .sl 3 (.ints .i64 a3)]), .v (.one (.int .i64 a4))] => q_impl_FlipAt a0 a1 a2 a3 a4 (fun z5 z6 z7 z8 z9 => K (.tup [.agg [.int .i64 z5, .int .i64 z6, .int .i64 z7, .sl 3 (.ints .i64 z8)], .one (.bool z9)]))
  | _ => none
def S10 {β : Type} (N : Nat) : Rv.Spec β := VS10 N (impl_FlipAt N)
def VE10 {β : Type} (N : Nat) (q_impl_FlipAll : (a0 : Int) → (a1 : Int) → (a2 : Int) → (a3 : List Int) → (a4 : List Int) → (k : Int → Int → Int → List Int → Bool → Option β) → Option β) : Env β := ⟨[(17, VS17 N q_impl_FlipAll)], [], [], []⟩
def E10 {β : Type} (N : Nat) : Env β := VE10 N (impl_FlipAll N)
def BV_impl_FlipAt {β : Type} (N : Nat) (q_impl_FlipAll : (a0 : Int) → (a1 : Int) → (a2 : Int) → (a3 : List Int) → (a4 : List Int) → (k : Int → Int → Int → List Int → Bool → Option β) → Option β) (a0 : Int) (a1 : Int) (a2 : Int) (a3 : List Int) (a4 : Int) (k : Int → Int → Int → List Int → Bool → Option β) : Option β :=
q_impl_FlipAll a0 a1 a2 a3 ((([] : List Int) ++ [a4])) fun r10 r11 r12 r13 r14 =>
k r10 r11 r12 r13 r14
theorem t_impl_FlipAt {β : Type} (N : Nat) (a0 : Int) (a1 : Int) (a2 : Int) (a3 : List Int) (a4 : Int) (k : Int → Int → Int → List Int → Bool → Option β) : impl_FlipAt N a0 a1 a2 a3 a4 k = BV_impl_FlipAt N (impl_FlipAll N) a0 a1 a2 a3 a4 k := by
  unfold impl_FlipAt BV_impl_FlipAt
  rfl
theorem ve10_0 {β : Type} (N : Nat) (q_impl_FlipAll : (a0 : Int) → (a1 : Int) → (a2 : Int) → (a3 : List Int) → (a4 : List Int) → (k : Int → Int → Int → List Int → Bool → Option β) → Option β)  (a0 : Int) (a1 : Int) (a2 : Int) (a3 : List Int) (a4 : Int) (K : TV → Option β) : evFn lay (VE10 N q_impl_FlipAll) Try.f10 [.v (.agg [.int .i64 a0, .int .i64 a1, .int .i64 a2, .sl 3 (.ints .i64 a3)]), .v (.one (.int .i64 a4))] K = BV_impl_FlipAt N q_impl_FlipAll a0 a1 a2 a3 a4 (fun z5 z6 z7 z8 z9 => K (.tup [.agg [.int .i64 z5, .int .i64 z6, .int .i64 z7, .sl 3 (.ints .i64 z8)], .one (.bool z9)])) := by kernel_rfl
theorem e10_0 {β : Type} (N : Nat)  (a0 : Int) (a1 : Int) (a2 : Int) (a3 : List Int) (a4 : Int) (K : TV → Option β) : evFn lay (E10 N) Try.f10 [.v (.agg [.int .i64 a0, .int .i64 a1, .int .i64 a2, .sl 3 (.ints .i64 a3)]), .v (.one (.int .i64 a4))] K = impl_FlipAt N a0 a1 a2 a3 a4 (fun z5 z6 z7 z8 z9 => K (.tup [.agg [.int .i64 z5, .int .i64 z6, .int .i64 z7, .sl 3 (.ints .i64 z8)], .one (.bool z9)])) := (ve10_0 N (impl_FlipAll N) a0 a1 a2 a3 a4 K).trans (t_impl_FlipAt N a0 a1 a2 a3 a4 (fun z5 z6 z7 z8 z9 => K (.tup [.agg [.int .i64 z5, .int .i64 z6, .int .i64 z7, .sl 3 (.ints .i64 z8)], .one (.bool z9)]))).symm
theorem o10 {β : Type} (N : Nat) : SpecOK (β := β) Try.prog 10 (S10 N) := by
  refine spec_of lay_ok mixed (E := E10 N) (specs_loops (specs_cons (o17 N) specs_nil)) muts_nil gs_nil Try.func10 (by kernel_rfl) 0 (by kernel_rfl) trivial fun args K r h => ?_
  unfold S10 VS10 at h
  split at h
  · exact (e10_0 N _ _ _ _ _ _).trans h
  · cases h
def VS60 {β : Type} (N : Nat) (q_spec_l30Same : (a0 : List Int) → (a1 : List Int) → (k : Bool → Option β) → Option β) : Rv.Spec β := fun args K => match args with
  | [.v (.one (.sl 3 (.ints .i64 a0))), .v (.one (.sl 3 (.ints .i64 a1)))] => q_spec_l30Same a0 a1 (fun z2 => K (.v (.one (.bool z2))))
  | _ => none
def S60 {β : Type} (N : Nat) : Rv.Spec β := VS60 N (spec_l30Same N)
def h60_0_0  (v0 : List Int) (v1 : List Int) (v2 : Int) : St := ⟨.v (.one (.sl 3 (.ints .i64 v0))) :: .v (.one (.sl 3 (.ints .i64 v1))) :: .v (.one .und) :: .v (.one .und) :: .v (.one .und) :: .v (.one (.int .i64 v2)) :: .v (.one .und) :: .v (.one .und) :: .v (.one .und) :: .v (.one .und) :: .v (.one .und) :: .v (.one .und) :: .v (.one .und) :: .v (.one .und) :: .v (.one .und) :: .v (.one .und) :: .v (.one .und) :: .v (.one .und) :: .v (.one .und) :: .v (.one .und) :: .v (.one .und) :: .v (.one .und) :: .v (.one .und) :: .v (.one .und) :: .v (.one .und) :: .v (.one .und) :: [], []⟩
def x60_0_0_k0  (y0 : Bool) : St := ⟨.v (.one .und) :: .v (.one .und) :: .v (.one .und) :: .v (.one .und) :: .v (.one (.bool y0)) :: .v (.one .und) :: .v (.one .und) :: .v (.one .und) :: .v (.one .und) :: .v (.one .und) :: .v (.one .und) :: .v (.one .und) :: .v (.one .und) :: .v (.one .und) :: .v (.one .und) :: .v (.one .und) :: .v (.one .und) :: .v (.one .und) :: .v (.one .und) :: .v (.one .und) :: .v (.one .und) :: .v (.one .und) :: .v (.one .und) :: .v (.one .und) :: .v (.one .und) :: .v (.one .und) :: [], []⟩
def x60_0_0_k1   : St := ⟨.v (.one .und) :: .v (.one .und) :: .v (.one .und) :: .v (.one .und) :: .v (.one .und) :: .v (.one .und) :: .v (.one .und) :: .v (.one .und) :: .v (.one .und) :: .v (.one .und) :: .v (.one .und) :: .v (.one .und) :: .v (.one .und) :: .v (.one .und) :: .v (.one .und) :: .v (.one .und) :: .v (.one .und) :: .v (.one .und) :: .v (.one .und) :: .v (.one .und) :: .v (.one .und) :: .v (.one .und) :: .v (.one .und) :: .v (.one .und) :: .v (.one .und) :: .v (.one .und) :: [], []⟩
theorem fl60_0_0 (s : St) : refSt (h60_0_0 [] [] 0) s = h60_0_0 (rInts (rowV (oneA (vT (nx tund s.tmps 0))))) (rInts (rowV (oneA (vT (nx tund s.tmps 1))))) (intS (oneA (vT (nx tund s.tmps 5)))) := by kernel_rfl
def VLS60_0 {β : Type} (N : Nat) (q_spec_l30Same_l0 : Nat → List Int → List Int → Int → (Bool → Option β) → (Option β) → Option β) : LSpec β := fun s K => cond (shpSt (h60_0_0 [] [] 0) s) ((fun (v0 : List Int) (v1 : List Int) (v2 : Int) => q_spec_l30Same_l0  N v0 v1 v2 (fun y0 => K .ret (x60_0_0_k0  y0)) (K (.exit 0) (x60_0_0_k1  ))) (rInts (rowV (oneA (vT (nx tund s.tmps 0))))) (rInts (rowV (oneA (vT (nx tund s.tmps 1))))) (intS (oneA (vT (nx tund s.tmps 5))))) (none)
def LS60_0 {β : Type} (N : Nat) : LSpec β := VLS60_0 N (spec_l30Same_l0 N)
def VE60 {β : Type} (N : Nat) (q_spec_l30Same_l0 : Nat → List Int → List Int → Int → (Bool → Option β) → (Option β) → Option β) : Env β := ⟨[], [], [(0, VLS60_0 N q_spec_l30Same_l0)], []⟩
def E60 {β : Type} (N : Nat) : Env β := VE60 N (spec_l30Same_l0 N)
def BV_spec_l30Same_l0b {β : Type} (N : Nat)  (v0 : List Int) (v1 : List Int) (v2 : Int) (rec_ : List Int → List Int → Int → Option β) (k0 : Bool → Option β) (k1 : Option β) : Option β :=
(cond ((decide (v2 < (v0.length : Int))))
((gd ((decide (0 ≤ v2)))
((gd ((decide (v2 < (v0.length : Int))))
((gd ((decide (0 ≤ v2)))
((gd ((decide (v2 < (v1.length : Int))))
((cond (((rd 0 v0 v2) != (rd 0 v1 v2)))
(k0 false)
(rec_ v0 v1 ((w64 (v2 + 1))))))))))))))
(k1 ))
theorem t_spec_l30Same_l0b {β : Type} (N : Nat)  (v0 : List Int) (v1 : List Int) (v2 : Int) (rec_ : List Int → List Int → Int → Option β) (k0 : Bool → Option β) (k1 : Option β) : spec_l30Same_l0b N v0 v1 v2 rec_ k0 k1 = BV_spec_l30Same_l0b N v0 v1 v2 rec_ k0 k1 := by
  unfold spec_l30Same_l0b BV_spec_l30Same_l0b
  rfl
theorem vst60_0_0 {β : Type} (N : Nat) (q_spec_l30Same_l0 : Nat → List Int → List Int → Int → (Bool → Option β) → (Option β) → Option β)  (v0 : List Int) (v1 : List Int) (v2 : Int) (rec_ : St → Option β) (K : Exit → St → Option β) :
    ev lay (VE60 N q_spec_l30Same_l0) (retMask Try.f60) (lp Try.f60 0).body (lp Try.f60 0).ex ((lp Try.f60 0).lv (retMask Try.f60)) (h60_0_0  v0 v1 v2) (nextR (fun s' => rec_ (s'.tidy ((lp Try.f60 0).lv (retMask Try.f60)))) K) = BV_spec_l30Same_l0b N  v0 v1 v2 (fun v0 v1 v2 => rec_ (h60_0_0  v0 v1 v2)) (fun y0 => K .ret (x60_0_0_k0  y0)) (K (.exit 0) (x60_0_0_k1  )) := by kernel_rfl
theorem st60_0_0 {β : Type} (N : Nat)  (v0 : List Int) (v1 : List Int) (v2 : Int) (rec_ : St → Option β) (K : Exit → St → Option β) :
    ev lay (E60 N) (retMask Try.f60) (lp Try.f60 0).body (lp Try.f60 0).ex ((lp Try.f60 0).lv (retMask Try.f60)) (h60_0_0  v0 v1 v2) (nextR (fun s' => rec_ (s'.tidy ((lp Try.f60 0).lv (retMask Try.f60)))) K) = spec_l30Same_l0b N  v0 v1 v2 (fun v0 v1 v2 => rec_ (h60_0_0  v0 v1 v2)) (fun y0 => K .ret (x60_0_0_k0  y0)) (K (.exit 0) (x60_0_0_k1  )) := (vst60_0_0 N (spec_l30Same_l0 N) v0 v1 v2 rec_ K).trans (t_spec_l30Same_l0b N  v0 v1 v2 (fun v0 v1 v2 => rec_ (h60_0_0  v0 v1 v2)) (fun y0 => K .ret (x60_0_0_k0  y0)) (K (.exit 0) (x60_0_0_k1  ))).symm
theorem ro60_0_0 {β : Type} (N : Nat)  (K : Exit → St → Option β) : ∀ (F : Nat) (v0 : List Int) (v1 : List Int) (v2 : Int), (lp Try.f60 0).rounds lay (E60 N) (retMask Try.f60) F (h60_0_0  v0 v1 v2) K = spec_l30Same_l0 N  F v0 v1 v2 (fun y0 => K .ret (x60_0_0_k0  y0)) (K (.exit 0) (x60_0_0_k1  )) := by
  intro F
  induction F with
  | zero => intros; rfl
  | succ F ih =>
    intros
    rw [rounds_next]
    refine (st60_0_0 N  _ _ _ (fun s => (lp Try.f60 0).rounds lay (E60 N) (retMask Try.f60) F s K) K).trans ?_
    simp only [ih]
    rfl
theorem lk60_0 {β : Type} (N : Nat) : lookL (E60 (β := β) N).loops (lp Try.f60 0).id = LS60_0 N := by kernel_rfl
theorem rk60_0 {β : Type} (N : Nat) : RoundsOK lay (E60 (β := β) N) (retMask Try.f60) (lp Try.f60 0) := by
  intro s K r h
  rw [lk60_0] at h
  unfold LS60_0 VLS60_0 at h
  cases hb : shpSt (h60_0_0 [] [] 0) s with
  | true =>
    rw [hb, cond_true] at h
    exact ⟨N, by rw [← shpSt_ref hb, fl60_0_0 s]; exact (ro60_0_0 N  K N (rInts (rowV (oneA (vT (nx tund s.tmps 0))))) (rInts (rowV (oneA (vT (nx tund s.tmps 1))))) (intS (oneA (vT (nx tund s.tmps 5))))).trans h⟩
  | false =>
  rw [hb, cond_false] at h
  clear hb
  cases h
def BV_spec_l30Same {β : Type} (N : Nat) (q_spec_l30Same_l0 : Nat → List Int → List Int → Int → (Bool → Option β) → (Option β) → Option β) (a0 : List Int) (a1 : List Int) (k : Bool → Option β) : Option β :=
(cond (((a0.length : Int) != (a1.length : Int)))
(k false)
(q_spec_l30Same_l0  N a0 a1 0 (fun e3_0 =>
k e3_0) (k true)))
theorem t_spec_l30Same {β : Type} (N : Nat) (a0 : List Int) (a1 : List Int) (k : Bool → Option β) : spec_l30Same N a0 a1 k = BV_spec_l30Same N (spec_l30Same_l0 N) a0 a1 k := by
  unfold spec_l30Same BV_spec_l30Same
  rfl
theorem ve60_0 {β : Type} (N : Nat) (q_spec_l30Same_l0 : Nat → List Int → List Int → Int → (Bool → Option β) → (Option β) → Option β)  (a0 : List Int) (a1 : List Int) (K : TV → Option β) : evFn lay (VE60 N q_spec_l30Same_l0) Try.f60 [.v (.one (.sl 3 (.ints .i64 a0))), .v (.one (.sl 3 (.ints .i64 a1)))] K = BV_spec_l30Same N q_spec_l30Same_l0 a0 a1 (fun z2 => K (.v (.one (.bool z2)))) := by kernel_rfl
theorem e60_0 {β : Type} (N : Nat)  (a0 : List Int) (a1 : List Int) (K : TV → Option β) : evFn lay (E60 N) Try.f60 [.v (.one (.sl 3 (.ints .i64 a0))), .v (.one (.sl 3 (.ints .i64 a1)))] K = spec_l30Same N a0 a1 (fun z2 => K (.v (.one (.bool z2)))) := (ve60_0 N (spec_l30Same_l0 N) a0 a1 K).trans (t_spec_l30Same N a0 a1 (fun z2 => K (.v (.one (.bool z2))))).symm
theorem o60 {β : Type} (N : Nat) : SpecOK (β := β) Try.prog 60 (S60 N) := by
  refine spec_of lay_ok mixed (E := E60 N) (specs_loops specs_nil) muts_nil gs_nil Try.func60 (by kernel_rfl) 1 (by kernel_rfl) ⟨trivial, rk60_0 N⟩ fun args K r h => ?_
  unfold S60 VS60 at h
  split at h
  · exact (e60_0 N _ _ _).trans h
  · cases h
def VS23 {β : Type} (N : Nat) (q_spec_IsKept : (a0 : Int) → (a1 : Int) → (a2 : Int) → (a3 : List Int) → (k : Bool → Option β) → Option β) : Rv.Spec β := fun args K => match args with
  | [.v (.agg [.int .i64 a0, .int .i64 a1, .int .i64 a2, .sl 3 (.ints .i64 a3)])] => q_spec_IsKept a0 a1 a2 a3 (fun z4 => K (.v (.one (.bool z4))))
  | _ => none
def S23 {β : Type} (N : Nat) : Rv.Spec β := VS23 N (spec_IsKept N)
def VE23 {β : Type} (N : Nat) (q_spec_NewKept : (a0 : Int) → (a1 : Int) → (k : Int → Int → Int → List Int → Bool → Option β) → Option β) (q_spec_l30Same : (a0 : List Int) → (a1 : List Int) → (k : Bool → Option β) → Option β) : Env β := ⟨[(21, VS21 N q_spec_NewKept), (60, VS60 N q_spec_l30Same)], [], [], []⟩
def E23 {β : Type} (N : Nat) : Env β := VE23 N (spec_NewKept N) (spec_l30Same N)
def BV_spec_IsKept {β : Type} (N : Nat) (q_spec_NewKept : (a0 : Int) → (a1 : Int) → (k : Int → Int → Int → List Int → Bool → Option β) → Option β) (q_spec_l30Same : (a0 : List Int) → (a1 : List Int) → (k : Bool → Option β) → Option β) (a0 : Int) (a1 : Int) (a2 : Int) (a3 : List Int) (k : Bool → Option β) : Option β :=
q_spec_NewKept a0 a1 fun r5 r6 r7 r8 r9 =>
(cond r9
((cond ((a2 == r7))
(q_spec_l30Same a3 r8 fun r10 =>
k r10)
(k false)))
(k false))
theorem t_spec_IsKept {β : Type} (N : Nat) (a0 : Int) (a1 : Int) (a2 : Int) (a3 : List Int) (k : Bool → Option β) : spec_IsKept N a0 a1 a2 a3 k = BV_spec_IsKept N (spec_NewKept N) (spec_l30Same N) a0 a1 a2 a3 k := by
  unfold spec_IsKept BV_spec_IsKept
  rfl
theorem ve23_0 {β : Type} (N : Nat) (q_spec_NewKept : (a0 : Int) → (a1 : Int) → (k : Int → Int → Int → List Int → Bool → Option β) → Option β) (q_spec_l30Same : (a0 : List Int) → (a1 : List Int) → (k : Bool → Option β) → Option β)  (a0 : Int) (a1 : Int) (a2 : Int) (a3 : List Int) (K : TV → Option β) : evFn lay (VE23 N q_spec_NewKept q_spec_l30Same) Try.f23 [.v (.agg [.int .i64 a0, .int .i64 a1, .int .i64 a2, .sl 3 (.ints .i64 a3)])] K = BV_spec_IsKept N q_spec_NewKept q_spec_l30Same a0 a1 a2 a3 (fun z4 => K (.v (.one (.bool z4)))) := by kernel_rfl
theorem e23_0 {β : Type} (N : Nat)  (a0 : Int) (a1 : Int) (a2 : Int) (a3 : List Int) (K : TV → Option β) : evFn lay (E23 N) Try.f23 [.v (.agg [.int .i64 a0, .int .i64 a1, .int .i64 a2, .sl 3 (.ints .i64 a3)])] K = spec_IsKept N a0 a1 a2 a3 (fun z4 => K (.v (.one (.bool z4)))) := (ve23_0 N (spec_NewKept N) (spec_l30Same N) a0 a1 a2 a3 K).trans (t_spec_IsKept N a0 a1 a2 a3 (fun z4 => K (.v (.one (.bool z4))))).symm
theorem o23 {β : Type} (N : Nat) : SpecOK (β := β) Try.prog 23 (S23 N) := by
  refine spec_of lay_ok mixed (E := E23 N) (specs_loops (specs_cons (o21 N) (specs_cons (o60 N) specs_nil))) muts_nil gs_nil Try.func23 (by kernel_rfl) 0 (by kernel_rfl) trivial fun args K r h => ?_
  unfold S23 VS23 at h
  split at h
  · exact (e23_0 N _ _ _ _ _).trans h
  · cases h
def VS58 {β : Type} (N : Nat) (q_spec_l9In : (a0 : Int) → (a1 : Int) → (a2 : Int) → (k : Bool → Option β) → Option β) : Rv.Spec β := fun args K => match args with
  | [.v (.agg [.int .i64 a0, .int .i64 a1]), .v (.one (.int .i64 a2))] => q_spec_l9In a0 a1 a2 (fun z3 => K (.v (.one (.bool z3))))
  | _ => none
def S58 {β : Type} (N : Nat) : Rv.Spec β := VS58 N (spec_l9In N)
def VE58 {β : Type} (N : Nat) (q_spec_IsTable : (a0 : Int) → (a1 : Int) → (k : Bool → Option β) → Option β) (q_spec_l1In : (a0 : Int) → (a1 : Int) → (a2 : Int) → (k : Bool → Option β) → Option β) : Env β := ⟨[(69, VS69 N q_spec_IsTable), (93, VS93 N q_spec_l1In)], [], [], []⟩
def E58 {β : Type} (N : Nat) : Env β := VE58 N (spec_IsTable N) (spec_l1In N)
def BV_spec_l9In {β : Type} (N : Nat) (q_spec_IsTable : (a0 : Int) → (a1 : Int) → (k : Bool → Option β) → Option β) (q_spec_l1In : (a0 : Int) → (a1 : Int) → (a2 : Int) → (k : Bool → Option β) → Option β) (a0 : Int) (a1 : Int) (a2 : Int) (k : Bool → Option β) : Option β :=
q_spec_IsTable a0 a1 fun r4 =>
(cond r4
((gd ((decide (0 ≤ a0)))
(q_spec_l1In a2 0 ((w64 ((shlI .i64 1 a0) - 1))) fun r5 =>
k r5)))
(k false))
theorem t_spec_l9In {β : Type} (N : Nat) (a0 : Int) (a1 : Int) (a2 : Int) (k : Bool → Option β) : spec_l9In N a0 a1 a2 k = BV_spec_l9In N (spec_IsTable N) (spec_l1In N) a0 a1 a2 k := by
  unfold spec_l9In BV_spec_l9In
  rfl
theorem ve58_0 {β : Type} (N : Nat) (q_spec_IsTable : (a0 : Int) → (a1 : Int) → (k : Bool → Option β) → Option β) (q_spec_l1In : (a0 : Int) → (a1 : Int) → (a2 : Int) → (k : Bool → Option β) → Option β)  (a0 : Int) (a1 : Int) (a2 : Int) (K : TV → Option β) : evFn lay (VE58 N q_spec_IsTable q_spec_l1In) Try.f58 [.v (.agg [.int .i64 a0, .int .i64 a1]), .v (.one (.int .i64 a2))] K = BV_spec_l9In N q_spec_IsTable q_spec_l1In a0 a1 a2 (fun z3 => K (.v (.one (.bool z3)))) := by kernel_rfl
theorem e58_0 {β : Type} (N : Nat)  (a0 : Int) (a1 : Int) (a2 : Int) (K : TV → Option β) : evFn lay (E58 N) Try.f58 [.v (.agg [.int .i64 a0, .int .i64 a1]), .v (.one (.int .i64 a2))] K = spec_l9In N a0 a1 a2 (fun z3 => K (.v (.one (.bool z3)))) := (ve58_0 N (spec_IsTable N) (spec_l1In N) a0 a1 a2 K).trans (t_spec_l9In N a0 a1 a2 (fun z3 => K (.v (.one (.bool z3))))).symm
theorem o58 {β : Type} (N : Nat) : SpecOK (β := β) Try.prog 58 (S58 N) := by
  refine spec_of lay_ok mixed (E := E58 N) (specs_loops (specs_cons (o69 N) (specs_cons (o93 N) specs_nil))) muts_nil gs_nil Try.func58 (by kernel_rfl) 0 (by kernel_rfl) trivial fun args K r h => ?_
  unfold S58 VS58 at h
  split at h
  · exact (e58_0 N _ _ _ _).trans h
  · cases h
end Go.Proofs.Ytdkjnadhgdneaaa
