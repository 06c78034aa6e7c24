/- The functions that the claims reach answer as their texts do. -/
import Derived.Test.YtfdggelojmofmaaDoorE0
namespace Go.Proofs.YtfdggelojmofmaaDoor
open Go.Rv
set_option maxRecDepth 100000
set_option maxHeartbeats 2000000
set_option linter.unusedVariables false
def VS121 {β : Type} (N : Nat) (q_impl_FormatTerm : (a0 : Int) → (a1 : Int) → (a2 : Int) → (k : ByteArray → Option β) → Option β) : Rv.Spec β := fun args K => match args with
  | [.v (.one (.int .i64 a0)), .v (.agg [.int .i64 a1, .int .i64 a2])] => q_impl_FormatTerm a0 a1 a2 (fun z3 => K (.v (.one (.str z3))))
  | _ => none
def S121 {β : Type} (N : Nat) : Rv.Spec β := VS121 N (impl_FormatTerm N)
def h121_0_0  (v0 : Int) (v1 : Int) (v2 : Int) (v3 : Int) (v4 : List Int) : St := ⟨.v (.one .und) :: .v (.one .und) :: .v (.one .und) :: .v (.one (.ptr 0 0)) :: .v (.one .und) :: .v (.one (.row 1)) :: .v (.one .und) :: .v (.one .und) :: .v (.one .und) :: .v (.one .und) :: .v (.one .und) :: .v (.one (.int .i64 v0)) :: .v (.one (.int .i64 v1)) :: .v (.one .und) :: .v (.one .und) :: .v (.one .und) :: .v (.one .und) :: .v (.one .und) :: .v (.one .und) :: .v (.one .und) :: .v (.one .und) :: .v (.one .und) :: .v (.one .und) :: .v (.one .und) :: .v (.one .und) :: .v (.one .und) :: .v (.one .und) :: .v (.one .und) :: .v (.one .und) :: .v (.one .und) :: .v (.one .und) :: .v (.one .und) :: .v (.one .und) :: .v (.one .und) :: .v (.one .und) :: .v (.one .und) :: .v (.one .und) :: .v (.one .und) :: .v (.one .und) :: .v (.one .und) :: .v (.one .und) :: .v (.one .und) :: [], [.cells 52 [.int .i64 v2, .int .i64 v3], .row 5 (.ints .u8 v4)]⟩
def x121_0_0_k0  (y0 : List Int) : St := ⟨.v (.one .und) :: .v (.one .und) :: .v (.one .und) :: .v (.one .und) :: .v (.one .und) :: .v (.one (.row 0)) :: .v (.one .und) :: .v (.one .und) :: .v (.one .und) :: .v (.one .und) :: .v (.one .und) :: .v (.one .und) :: .v (.one .und) :: .v (.one .und) :: .v (.one .und) :: .v (.one .und) :: .v (.one .und) :: .v (.one .und) :: .v (.one .und) :: .v (.one .und) :: .v (.one .und) :: .v (.one .und) :: .v (.one .und) :: .v (.one .und) :: .v (.one .und) :: .v (.one .und) :: .v (.one .und) :: .v (.one .und) :: .v (.one .und) :: .v (.one .und) :: .v (.one .und) :: .v (.one .und) :: .v (.one .und) :: .v (.one .und) :: .v (.one .und) :: .v (.one .und) :: .v (.one .und) :: .v (.one .und) :: .v (.one .und) :: .v (.one .und) :: .v (.one .und) :: .v (.one .und) :: [], [.row 5 (.ints .u8 y0)]⟩
theorem fl121_0_0 (s : St) : refSt (h121_0_0 0 0 0 0 []) s = h121_0_0 (intS (oneA (vT (nx tund s.tmps 11)))) (intS (oneA (vT (nx tund s.tmps 12)))) (intS (nx .und (cellsB (nx .dead s.blks 0)) 0)) (intS (nx .und (cellsB (nx .dead s.blks 0)) 1)) (rInts (rowB_ (nx .dead s.blks 1))) := by kernel_rfl
def VLS121_0 {β : Type} (N : Nat) (q_impl_FormatTerm_l0 : Nat → Int → Int → Int → Int → List Int → (List Int → Option β) → Option β) : LSpec β := fun s K => cond (shpSt (h121_0_0 0 0 0 0 []) s) ((fun (v0 : Int) (v1 : Int) (v2 : Int) (v3 : Int) (v4 : List Int) => q_impl_FormatTerm_l0  N v0 v1 v2 v3 v4 (fun y0 => K (.exit 0) (x121_0_0_k0  y0))) (intS (oneA (vT (nx tund s.tmps 11)))) (intS (oneA (vT (nx tund s.tmps 12)))) (intS (nx .und (cellsB (nx .dead s.blks 0)) 0)) (intS (nx .und (cellsB (nx .dead s.blks 0)) 1)) (rInts (rowB_ (nx .dead s.blks 1)))) (none)
def LS121_0 {β : Type} (N : Nat) : LSpec β := VLS121_0 N (impl_FormatTerm_l0 N)
def VE121 {β : Type} (N : Nat) (q_impl_IsTerm : (a0 : Int) → (a1 : Int) → (a2 : Int) → (k : Bool → Option β) → Option β) (q_impl_FormatTerm_l0 : Nat → Int → Int → Int → Int → List Int → (List Int → Option β) → Option β) : Env β := ⟨[(182, VS182 N q_impl_IsTerm)], [], [(0, VLS121_0 N q_impl_FormatTerm_l0)], [], ⟨[], [], [], []⟩⟩
def E121 {β : Type} (N : Nat) : Env β := VE121 N (impl_IsTerm N) (impl_FormatTerm_l0 N)
def BV_impl_FormatTerm_l0b {β : Type} (N : Nat)  (v0 : Int) (v1 : Int) (v2 : Int) (v3 : Int) (v4 : List Int) (rec_ : Int → Int → Int → Int → List Int → Option β) (k0 : List Int → Option β) : Option β :=
(cond ((decide (v1 < v0)))
((gd ((decide (0 ≤ v1)))
((cond (((bits .and .i64 (shrI .i64 v2 v1) 1) == 0))
(rec_ v0 ((w64 (v1 + 1))) v2 v3 v4)
((gd ((decide (0 ≤ v1)))
((cond (((bits .and .i64 (shrI .i64 v3 v1) 1) == 0))
((gd ((decide ((v4.length + ((([] : List Int) ++ [33])).length) * 1 ≤ 140737488355328)))
((gd ((decide ((((v4 ++ (([] : List Int) ++ [33]))).length + ((([] : List Int) ++ [(w8 (97 + (w8 (v1))))])).length) * 1 ≤ 140737488355328)))
(rec_ v0 ((w64 (v1 + 1))) v2 v3 (((v4 ++ (([] : List Int) ++ [33])) ++ (([] : List Int) ++ [(w8 (97 + (w8 (v1))))]))))))))
((gd ((decide ((v4.length + ((([] : List Int) ++ [(w8 (97 + (w8 (v1))))])).length) * 1 ≤ 140737488355328)))
(rec_ v0 ((w64 (v1 + 1))) v2 v3 ((v4 ++ (([] : List Int) ++ [(w8 (97 + (w8 (v1))))]))))))))))))))
(k0 v4))
theorem t_impl_FormatTerm_l0b {β : Type} (N : Nat)  (v0 : Int) (v1 : Int) (v2 : Int) (v3 : Int) (v4 : List Int) (rec_ : Int → Int → Int → Int → List Int → Option β) (k0 : List Int → Option β) : impl_FormatTerm_l0b N v0 v1 v2 v3 v4 rec_ k0 = BV_impl_FormatTerm_l0b N v0 v1 v2 v3 v4 rec_ k0 := by
  unfold impl_FormatTerm_l0b BV_impl_FormatTerm_l0b
  rfl
theorem vst121_0_0 {β : Type} (N : Nat) (q_impl_IsTerm : (a0 : Int) → (a1 : Int) → (a2 : Int) → (k : Bool → Option β) → Option β) (q_impl_FormatTerm_l0 : Nat → Int → Int → Int → Int → List Int → (List Int → Option β) → Option β)  (v0 : Int) (v1 : Int) (v2 : Int) (v3 : Int) (v4 : List Int) (rec_ : St → Option β) (K : Exit → St → Option β) :
    ev lay (VE121 N q_impl_IsTerm q_impl_FormatTerm_l0) (retMask Tryd.f121) (lp Tryd.f121 0).body (lp Tryd.f121 0).ex ((lp Tryd.f121 0).lv (retMask Tryd.f121)) (h121_0_0  v0 v1 v2 v3 v4) (nextR (fun s' => rec_ (s'.tidy ((lp Tryd.f121 0).lv (retMask Tryd.f121)))) K) = BV_impl_FormatTerm_l0b N  v0 v1 v2 v3 v4 (fun v0 v1 v2 v3 v4 => rec_ (h121_0_0  v0 v1 v2 v3 v4)) (fun y0 => K (.exit 0) (x121_0_0_k0  y0)) := by kernel_rfl
theorem st121_0_0 {β : Type} (N : Nat)  (v0 : Int) (v1 : Int) (v2 : Int) (v3 : Int) (v4 : List Int) (rec_ : St → Option β) (K : Exit → St → Option β) :
    ev lay (E121 N) (retMask Tryd.f121) (lp Tryd.f121 0).body (lp Tryd.f121 0).ex ((lp Tryd.f121 0).lv (retMask Tryd.f121)) (h121_0_0  v0 v1 v2 v3 v4) (nextR (fun s' => rec_ (s'.tidy ((lp Tryd.f121 0).lv (retMask Tryd.f121)))) K) = impl_FormatTerm_l0b N  v0 v1 v2 v3 v4 (fun v0 v1 v2 v3 v4 => rec_ (h121_0_0  v0 v1 v2 v3 v4)) (fun y0 => K (.exit 0) (x121_0_0_k0  y0)) := (vst121_0_0 N (impl_IsTerm N) (impl_FormatTerm_l0 N) v0 v1 v2 v3 v4 rec_ K).trans (t_impl_FormatTerm_l0b N  v0 v1 v2 v3 v4 (fun v0 v1 v2 v3 v4 => rec_ (h121_0_0  v0 v1 v2 v3 v4)) (fun y0 => K (.exit 0) (x121_0_0_k0  y0))).symm
theorem ro121_0_0 {β : Type} (N : Nat)  (K : Exit → St → Option β) : ∀ (F : Nat) (v0 : Int) (v1 : Int) (v2 : Int) (v3 : Int) (v4 : List Int), (lp Tryd.f121 0).rounds lay (E121 N) (retMask Tryd.f121) F (h121_0_0  v0 v1 v2 v3 v4) K = impl_FormatTerm_l0 N  F v0 v1 v2 v3 v4 (fun y0 => K (.exit 0) (x121_0_0_k0  y0)) := by
  intro F
  induction F with
  | zero => intros; rfl
  | succ F ih =>
    intros
    rw [rounds_next]
    refine (st121_0_0 N  _ _ _ _ _ (fun s => (lp Tryd.f121 0).rounds lay (E121 N) (retMask Tryd.f121) F s K) K).trans ?_
    simp only [ih]
    rfl
theorem lk121_0 {β : Type} (N : Nat) : lookL (E121 (β := β) N).loops (lp Tryd.f121 0).id = LS121_0 N := by kernel_rfl
theorem rk121_0 {β : Type} (N : Nat) : RoundsOK lay (E121 (β := β) N) (retMask Tryd.f121) (lp Tryd.f121 0) := by
  intro s K r h
  rw [lk121_0] at h
  unfold LS121_0 VLS121_0 at h
  cases hb : shpSt (h121_0_0 0 0 0 0 []) s with
  | true =>
    rw [hb, cond_true] at h
    exact ⟨N, by rw [← shpSt_ref hb, fl121_0_0 s]; exact (ro121_0_0 N  K N (intS (oneA (vT (nx tund s.tmps 11)))) (intS (oneA (vT (nx tund s.tmps 12)))) (intS (nx .und (cellsB (nx .dead s.blks 0)) 0)) (intS (nx .und (cellsB (nx .dead s.blks 0)) 1)) (rInts (rowB_ (nx .dead s.blks 1)))).trans h⟩
  | false =>
  rw [hb, cond_false] at h
  clear hb
  cases h
def BV_impl_FormatTerm {β : Type} (N : Nat) (q_impl_IsTerm : (a0 : Int) → (a1 : Int) → (a2 : Int) → (k : Bool → Option β) → Option β) (q_impl_FormatTerm_l0 : Nat → Int → Int → Int → Int → List Int → (List Int → Option β) → Option β) (a0 : Int) (a1 : Int) (a2 : Int) (k : ByteArray → Option β) : Option β :=
q_impl_IsTerm a0 a1 a2 fun r4 =>
(cond (!r4)
(k ByteArray.empty)
(q_impl_FormatTerm_l0  N a0 0 a1 a2 (([] : List Int)) (fun e5_0 =>
(cond (((e5_0.length : Int) == 0))
(k ((strOf [49])))
(k ((strOf e5_0)))))))
theorem t_impl_FormatTerm {β : Type} (N : Nat) (a0 : Int) (a1 : Int) (a2 : Int) (k : ByteArray → Option β) : impl_FormatTerm N a0 a1 a2 k = BV_impl_FormatTerm N (impl_IsTerm N) (impl_FormatTerm_l0 N) a0 a1 a2 k := by
  unfold impl_FormatTerm BV_impl_FormatTerm
  rfl
theorem ve121_0 {β : Type} (N : Nat) (q_impl_IsTerm : (a0 : Int) → (a1 : Int) → (a2 : Int) → (k : Bool → Option β) → Option β) (q_impl_FormatTerm_l0 : Nat → Int → Int → Int → Int → List Int → (List Int → Option β) → Option β)  (a0 : Int) (a1 : Int) (a2 : Int) (K : TV → Option β) : evFn lay (VE121 N q_impl_IsTerm q_impl_FormatTerm_l0) Tryd.f121 [.v (.one (.int .i64 a0)), .v (.agg [.int .i64 a1, .int .i64 a2])] K = BV_impl_FormatTerm N q_impl_IsTerm q_impl_FormatTerm_l0 a0 a1 a2 (fun z3 => K (.v (.one (.str z3)))) := by kernel_rfl
theorem e121_0 {β : Type} (N : Nat)  (a0 : Int) (a1 : Int) (a2 : Int) (K : TV → Option β) : evFn lay (E121 N) Tryd.f121 [.v (.one (.int .i64 a0)), .v (.agg [.int .i64 a1, .int .i64 a2])] K = impl_FormatTerm N a0 a1 a2 (fun z3 => K (.v (.one (.str z3)))) := (ve121_0 N (impl_IsTerm N) (impl_FormatTerm_l0 N) a0 a1 a2 K).trans (t_impl_FormatTerm N a0 a1 a2 (fun z3 => K (.v (.one (.str z3))))).symm
theorem o121 {β : Type} (N : Nat) : SpecOK (β := β) inv Tryd.prog 121 (S121 N) := by
  refine spec_of lay_ok mixed (E := E121 N) (specs_loops (specs_cons (o182 N) specs_nil)) muts_nil gs_nil Tryd.func121 (by kernel_rfl) 1 (by kernel_rfl) ⟨trivial, rk121_0 N⟩ fun args K r h => ?_
  unfold S121 VS121 at h
  split at h
  · exact (e121_0 N _ _ _ _).trans h
  · cases h
def VS48 {β : Type} (N : Nat) (q_impl_ParseTerm : (a0 : Int) → (a1 : ByteArray) → (k : Int → Int → Bool → Option β) → Option β) : Rv.Spec β := fun args K => match args with
  | [.v (.one (.int .i64 a0)), .v (.one (.str a1))] => q_impl_ParseTerm a0 a1 (fun z2 z3 z4 => K (.tup [.agg [.int .i64 z2, .int .i64 z3], .one (.bool z4)]))
  | _ => none
def S48 {β : Type} (N : Nat) : Rv.Spec β := VS48 N (impl_ParseTerm N)
def h48_0_0  (v0 : Int) (v1 : ByteArray) (v2 : Int) (v3 : Int) (v4 : Int) (v5 : Int) (v6 : Int) (v7 : Int) (v8 : Int) : St := ⟨.v (.one (.int .i64 v0)) :: .v (.one (.str v1)) :: .v (.one .und) :: .v (.one .und) :: .v (.one (.ptr 0 0)) :: .v (.one .und) :: .v (.one (.ptr 1 0)) :: .v (.one (.int .i64 v2)) :: .v (.one .und) :: .v (.one .und) :: .v (.one .und) :: .v (.one .und) :: .v (.one (.int .i64 v3)) :: .v (.one (.int .i64 v4)) :: .v (.one .und) :: .v (.one .und) :: .v (.one .und) :: .v (.one .und) :: .v (.one .und) :: .v (.one .und) :: .v (.one .und) :: .v (.one .und) :: .v (.one .und) :: .v (.one .und) :: .v (.one .und) :: .v (.one .und) :: .v (.one .und) :: .v (.one .und) :: .v (.one .und) :: .v (.one .und) :: .v (.one .und) :: .v (.one .und) :: .v (.one .und) :: .v (.one .und) :: .v (.one .und) :: .v (.one .und) :: .v (.one .und) :: .v (.one .und) :: .v (.one .und) :: .v (.one .und) :: .v (.one .und) :: .v (.one .und) :: .v (.one .und) :: .v (.one .und) :: .v (.one .und) :: .v (.one .und) :: .v (.one .und) :: .v (.one .und) :: .v (.one .und) :: .v (.one .und) :: .v (.one .und) :: .v (.one .und) :: .v (.one .und) :: .v (.one .und) :: .v (.one .und) :: .v (.one .und) :: .v (.one .und) :: [], [.cells 52 [.int .i64 v5, .int .i64 v6], .cells 52 [.int .i64 v7, .int .i64 v8]]⟩
def x48_0_0_k0  (y0 : Int) (y1 : ByteArray) (y2 : Int) (y3 : Int) (y4 : Int) (y5 : Int) : St := ⟨.v (.one (.int .i64 y0)) :: .v (.one (.str y1)) :: .v (.one .und) :: .v (.one .und) :: .v (.one (.ptr 0 0)) :: .v (.one .und) :: .v (.one (.ptr 1 0)) :: .v (.one .und) :: .v (.one .und) :: .v (.one .und) :: .v (.one .und) :: .v (.one .und) :: .v (.one .und) :: .v (.one .und) :: .v (.one .und) :: .v (.one .und) :: .v (.one .und) :: .v (.one .und) :: .v (.one .und) :: .v (.one .und) :: .v (.one .und) :: .v (.one .und) :: .v (.one .und) :: .v (.one .und) :: .v (.one .und) :: .v (.one .und) :: .v (.one .und) :: .v (.one .und) :: .v (.one .und) :: .v (.one .und) :: .v (.one .und) :: .v (.one .und) :: .v (.one .und) :: .v (.one .und) :: .v (.one .und) :: .v (.one .und) :: .v (.one .und) :: .v (.one .und) :: .v (.one .und) :: .v (.one .und) :: .v (.one .und) :: .v (.one .und) :: .v (.one .und) :: .v (.one .und) :: .v (.one .und) :: .v (.one .und) :: .v (.one .und) :: .v (.one .und) :: .v (.one .und) :: .v (.one .und) :: .v (.one .und) :: .v (.one .und) :: .v (.one .und) :: .v (.one .und) :: .v (.one .und) :: .v (.one .und) :: .v (.one .und) :: [], [.cells 52 [.int .i64 y2, .int .i64 y3], .cells 52 [.int .i64 y4, .int .i64 y5]]⟩
theorem fl48_0_0 (s : St) : refSt (h48_0_0 0 ByteArray.empty 0 0 0 0 0 0 0) s = h48_0_0 (intS (oneA (vT (nx tund s.tmps 0)))) (strS (oneA (vT (nx tund s.tmps 1)))) (intS (oneA (vT (nx tund s.tmps 7)))) (intS (oneA (vT (nx tund s.tmps 12)))) (intS (oneA (vT (nx tund s.tmps 13)))) (intS (nx .und (cellsB (nx .dead s.blks 0)) 0)) (intS (nx .und (cellsB (nx .dead s.blks 0)) 1)) (intS (nx .und (cellsB (nx .dead s.blks 1)) 0)) (intS (nx .und (cellsB (nx .dead s.blks 1)) 1)) := by kernel_rfl
def VLS48_0 {β : Type} (N : Nat) (q_impl_ParseTerm_l0 : Nat → Int → ByteArray → Int → Int → Int → Int → Int → Int → Int → (Int → ByteArray → Int → Int → Int → Int → Option β) → Option β) : LSpec β := fun s K => cond (shpSt (h48_0_0 0 ByteArray.empty 0 0 0 0 0 0 0) s) ((fun (v0 : Int) (v1 : ByteArray) (v2 : Int) (v3 : Int) (v4 : Int) (v5 : Int) (v6 : Int) (v7 : Int) (v8 : Int) => q_impl_ParseTerm_l0  N v0 v1 v2 v3 v4 v5 v6 v7 v8 (fun y0 y1 y2 y3 y4 y5 => K (.exit 0) (x48_0_0_k0  y0 y1 y2 y3 y4 y5))) (intS (oneA (vT (nx tund s.tmps 0)))) (strS (oneA (vT (nx tund s.tmps 1)))) (intS (oneA (vT (nx tund s.tmps 7)))) (intS (oneA (vT (nx tund s.tmps 12)))) (intS (oneA (vT (nx tund s.tmps 13)))) (intS (nx .und (cellsB (nx .dead s.blks 0)) 0)) (intS (nx .und (cellsB (nx .dead s.blks 0)) 1)) (intS (nx .und (cellsB (nx .dead s.blks 1)) 0)) (intS (nx .und (cellsB (nx .dead s.blks 1)) 1))) (none)
def LS48_0 {β : Type} (N : Nat) : LSpec β := VLS48_0 N (impl_ParseTerm_l0 N)
def VE48 {β : Type} (N : Nat) (q_impl_isLetter : (a0 : Int) → (k : Bool → Option β) → Option β) (q_impl_FormatTerm : (a0 : Int) → (a1 : Int) → (a2 : Int) → (k : ByteArray → Option β) → Option β) (q_impl_ParseTerm_l0 : Nat → Int → ByteArray → Int → Int → Int → Int → Int → Int → Int → (Int → ByteArray → Int → Int → Int → Int → Option β) → Option β) : Env β := ⟨[(120, VS120 N q_impl_isLetter), (121, VS121 N q_impl_FormatTerm)], [], [(0, VLS48_0 N q_impl_ParseTerm_l0)], [], ⟨[], [], [], []⟩⟩
def E48 {β : Type} (N : Nat) : Env β := VE48 N (impl_isLetter N) (impl_FormatTerm N) (impl_ParseTerm_l0 N)
def BV_impl_ParseTerm_l0b {β : Type} (N : Nat) (q_impl_isLetter : (a0 : Int) → (k : Bool → Option β) → Option β)  (v0 : Int) (v1 : ByteArray) (v2 : Int) (v3 : Int) (v4 : Int) (v5 : Int) (v6 : Int) (v7 : Int) (v8 : Int) (rec_ : Int → ByteArray → Int → Int → Int → Int → Int → Int → Int → Option β) (k0 : Int → ByteArray → Int → Int → Int → Int → Option β) : Option β :=
(cond ((decide (v4 < v3)))
((gd ((decide (0 ≤ v4)))
((gd ((decide (v4 < (v1.size : Int))))
((cond (((bt v1 v4) == 33))
(rec_ v0 v1 0 v3 ((w64 (v4 + 1))) v5 v6 v7 v8)
((gd ((decide (0 ≤ v4)))
((gd ((decide (v4 < (v1.size : Int))))
(q_impl_isLetter ((bt v1 v4)) fun r5 =>
(cond r5
((gd ((decide (0 ≤ v4)))
((gd ((decide (v4 < (v1.size : Int))))
((gd ((decide (0 ≤ (w8 ((bt v1 v4) - 97)))))
((gd ((decide (0 ≤ v4)))
((gd ((decide (v4 < (v1.size : Int))))
((gd ((decide (0 ≤ (w8 ((bt v1 v4) - 97)))))
(rec_ v0 v1 1 v3 ((w64 (v4 + 1))) v5 v6 ((bits .or .i64 v7 (shlI .i64 1 (w8 ((bt v1 v4) - 97))))) ((bits .or .i64 v8 (shlI .i64 v2 (w8 ((bt v1 v4) - 97))))))))))))))))))
(rec_ v0 v1 v2 v3 ((w64 (v4 + 1))) v5 v6 v7 v8)))))))))))))
(k0 v0 v1 v5 v6 v7 v8))
theorem t_impl_ParseTerm_l0b {β : Type} (N : Nat)  (v0 : Int) (v1 : ByteArray) (v2 : Int) (v3 : Int) (v4 : Int) (v5 : Int) (v6 : Int) (v7 : Int) (v8 : Int) (rec_ : Int → ByteArray → Int → Int → Int → Int → Int → Int → Int → Option β) (k0 : Int → ByteArray → Int → Int → Int → Int → Option β) : impl_ParseTerm_l0b N v0 v1 v2 v3 v4 v5 v6 v7 v8 rec_ k0 = BV_impl_ParseTerm_l0b N (impl_isLetter N) v0 v1 v2 v3 v4 v5 v6 v7 v8 rec_ k0 := by
  unfold impl_ParseTerm_l0b BV_impl_ParseTerm_l0b
  rfl
theorem vst48_0_0 {β : Type} (N : Nat) (q_impl_isLetter : (a0 : Int) → (k : Bool → Option β) → Option β) (q_impl_FormatTerm : (a0 : Int) → (a1 : Int) → (a2 : Int) → (k : ByteArray → Option β) → Option β) (q_impl_ParseTerm_l0 : Nat → Int → ByteArray → Int → Int → Int → Int → Int → Int → Int → (Int → ByteArray → Int → Int → Int → Int → Option β) → Option β)  (v0 : Int) (v1 : ByteArray) (v2 : Int) (v3 : Int) (v4 : Int) (v5 : Int) (v6 : Int) (v7 : Int) (v8 : Int) (rec_ : St → Option β) (K : Exit → St → Option β) :
    ev lay (VE48 N q_impl_isLetter q_impl_FormatTerm q_impl_ParseTerm_l0) (retMask Tryd.f48) (lp Tryd.f48 0).body (lp Tryd.f48 0).ex ((lp Tryd.f48 0).lv (retMask Tryd.f48)) (h48_0_0  v0 v1 v2 v3 v4 v5 v6 v7 v8) (nextR (fun s' => rec_ (s'.tidy ((lp Tryd.f48 0).lv (retMask Tryd.f48)))) K) = BV_impl_ParseTerm_l0b N q_impl_isLetter  v0 v1 v2 v3 v4 v5 v6 v7 v8 (fun v0 v1 v2 v3 v4 v5 v6 v7 v8 => rec_ (h48_0_0  v0 v1 v2 v3 v4 v5 v6 v7 v8)) (fun y0 y1 y2 y3 y4 y5 => K (.exit 0) (x48_0_0_k0  y0 y1 y2 y3 y4 y5)) := by kernel_rfl
theorem st48_0_0 {β : Type} (N : Nat)  (v0 : Int) (v1 : ByteArray) (v2 : Int) (v3 : Int) (v4 : Int) (v5 : Int) (v6 : Int) (v7 : Int) (v8 : Int) (rec_ : St → Option β) (K : Exit → St → Option β) :
    ev lay (E48 N) (retMask Tryd.f48) (lp Tryd.f48 0).body (lp Tryd.f48 0).ex ((lp Tryd.f48 0).lv (retMask Tryd.f48)) (h48_0_0  v0 v1 v2 v3 v4 v5 v6 v7 v8) (nextR (fun s' => rec_ (s'.tidy ((lp Tryd.f48 0).lv (retMask Tryd.f48)))) K) = impl_ParseTerm_l0b N  v0 v1 v2 v3 v4 v5 v6 v7 v8 (fun v0 v1 v2 v3 v4 v5 v6 v7 v8 => rec_ (h48_0_0  v0 v1 v2 v3 v4 v5 v6 v7 v8)) (fun y0 y1 y2 y3 y4 y5 => K (.exit 0) (x48_0_0_k0  y0 y1 y2 y3 y4 y5)) := (vst48_0_0 N (impl_isLetter N) (impl_FormatTerm N) (impl_ParseTerm_l0 N) v0 v1 v2 v3 v4 v5 v6 v7 v8 rec_ K).trans (t_impl_ParseTerm_l0b N  v0 v1 v2 v3 v4 v5 v6 v7 v8 (fun v0 v1 v2 v3 v4 v5 v6 v7 v8 => rec_ (h48_0_0  v0 v1 v2 v3 v4 v5 v6 v7 v8)) (fun y0 y1 y2 y3 y4 y5 => K (.exit 0) (x48_0_0_k0  y0 y1 y2 y3 y4 y5))).symm
theorem ro48_0_0 {β : Type} (N : Nat)  (K : Exit → St → Option β) : ∀ (F : Nat) (v0 : Int) (v1 : ByteArray) (v2 : Int) (v3 : Int) (v4 : Int) (v5 : Int) (v6 : Int) (v7 : Int) (v8 : Int), (lp Tryd.f48 0).rounds lay (E48 N) (retMask Tryd.f48) F (h48_0_0  v0 v1 v2 v3 v4 v5 v6 v7 v8) K = impl_ParseTerm_l0 N  F v0 v1 v2 v3 v4 v5 v6 v7 v8 (fun y0 y1 y2 y3 y4 y5 => K (.exit 0) (x48_0_0_k0  y0 y1 y2 y3 y4 y5)) := by
  intro F
  induction F with
  | zero => intros; rfl
  | succ F ih =>
    intros
    rw [rounds_next]
    refine (st48_0_0 N  _ _ _ _ _ _ _ _ _ (fun s => (lp Tryd.f48 0).rounds lay (E48 N) (retMask Tryd.f48) F s K) K).trans ?_
    simp only [ih]
    rfl
theorem lk48_0 {β : Type} (N : Nat) : lookL (E48 (β := β) N).loops (lp Tryd.f48 0).id = LS48_0 N := by kernel_rfl
theorem rk48_0 {β : Type} (N : Nat) : RoundsOK lay (E48 (β := β) N) (retMask Tryd.f48) (lp Tryd.f48 0) := by
  intro s K r h
  rw [lk48_0] at h
  unfold LS48_0 VLS48_0 at h
  cases hb : shpSt (h48_0_0 0 ByteArray.empty 0 0 0 0 0 0 0) s with
  | true =>
    rw [hb, cond_true] at h
    exact ⟨N, by rw [← shpSt_ref hb, fl48_0_0 s]; exact (ro48_0_0 N  K N (intS (oneA (vT (nx tund s.tmps 0)))) (strS (oneA (vT (nx tund s.tmps 1)))) (intS (oneA (vT (nx tund s.tmps 7)))) (intS (oneA (vT (nx tund s.tmps 12)))) (intS (oneA (vT (nx tund s.tmps 13)))) (intS (nx .und (cellsB (nx .dead s.blks 0)) 0)) (intS (nx .und (cellsB (nx .dead s.blks 0)) 1)) (intS (nx .und (cellsB (nx .dead s.blks 1)) 0)) (intS (nx .und (cellsB (nx .dead s.blks 1)) 1))).trans h⟩
  | false =>
  rw [hb, cond_false] at h
  clear hb
  cases h
def BV_impl_ParseTerm {β : Type} (N : Nat) (q_impl_ParseTerm_l0 : Nat → Int → ByteArray → Int → Int → Int → Int → Int → Int → Int → (Int → ByteArray → Int → Int → Int → Int → Option β) → Option β) (q_impl_FormatTerm : (a0 : Int) → (a1 : Int) → (a2 : Int) → (k : ByteArray → Option β) → Option β) (a0 : Int) (a1 : ByteArray) (k : Int → Int → Bool → Option β) : Option β :=
(cond ((!(a1.toList == ((strOf [49])).toList)))
(q_impl_ParseTerm_l0  N a0 a1 1 ((a1.size : Int)) 0 0 0 0 0 (fun e6_0 e6_1 e6_2 e6_3 e6_4 e6_5 =>
(cond ((e6_1.toList == ByteArray.empty.toList))
(k 0 0 false)
(q_impl_FormatTerm e6_0 e6_4 e6_5 fun r7 =>
(cond ((!(r7.toList == e6_1.toList)))
(k 0 0 false)
(k e6_4 e6_5 true))))))
((cond ((a1.toList == ByteArray.empty.toList))
(k 0 0 false)
(q_impl_FormatTerm a0 0 0 fun r8 =>
(cond ((!(r8.toList == a1.toList)))
(k 0 0 false)
(k 0 0 true))))))
theorem t_impl_ParseTerm {β : Type} (N : Nat) (a0 : Int) (a1 : ByteArray) (k : Int → Int → Bool → Option β) : impl_ParseTerm N a0 a1 k = BV_impl_ParseTerm N (impl_ParseTerm_l0 N) (impl_FormatTerm N) a0 a1 k := by
  unfold impl_ParseTerm BV_impl_ParseTerm
  rfl
theorem ve48_0 {β : Type} (N : Nat) (q_impl_isLetter : (a0 : Int) → (k : Bool → Option β) → Option β) (q_impl_FormatTerm : (a0 : Int) → (a1 : Int) → (a2 : Int) → (k : ByteArray → Option β) → Option β) (q_impl_ParseTerm_l0 : Nat → Int → ByteArray → Int → Int → Int → Int → Int → Int → Int → (Int → ByteArray → Int → Int → Int → Int → Option β) → Option β)  (a0 : Int) (a1 : ByteArray) (K : TV → Option β) : evFn lay (VE48 N q_impl_isLetter q_impl_FormatTerm q_impl_ParseTerm_l0) Tryd.f48 [.v (.one (.int .i64 a0)), .v (.one (.str a1))] K = BV_impl_ParseTerm N q_impl_ParseTerm_l0 q_impl_FormatTerm a0 a1 (fun z2 z3 z4 => K (.tup [.agg [.int .i64 z2, .int .i64 z3], .one (.bool z4)])) := by kernel_rfl
theorem e48_0 {β : Type} (N : Nat)  (a0 : Int) (a1 : ByteArray) (K : TV → Option β) : evFn lay (E48 N) Tryd.f48 [.v (.one (.int .i64 a0)), .v (.one (.str a1))] K = impl_ParseTerm N a0 a1 (fun z2 z3 z4 => K (.tup [.agg [.int .i64 z2, .int .i64 z3], .one (.bool z4)])) := (ve48_0 N (impl_isLetter N) (impl_FormatTerm N) (impl_ParseTerm_l0 N) a0 a1 K).trans (t_impl_ParseTerm N a0 a1 (fun z2 z3 z4 => K (.tup [.agg [.int .i64 z2, .int .i64 z3], .one (.bool z4)]))).symm
theorem o48 {β : Type} (N : Nat) : SpecOK (β := β) inv Tryd.prog 48 (S48 N) := by
  refine spec_of lay_ok mixed (E := E48 N) (specs_loops (specs_cons (o120 N) (specs_cons (o121 N) specs_nil))) muts_nil gs_nil Tryd.func48 (by kernel_rfl) 1 (by kernel_rfl) ⟨trivial, rk48_0 N⟩ fun args K r h => ?_
  unfold S48 VS48 at h
  split at h
  · exact (e48_0 N _ _ _).trans h
  · cases h
def VS184 {β : Type} (N : Nat) (q_impl_areTerms_1 : (a0 : Int) → (a1 : Int) → (c0 : Int) → (k : Bool → Option β) → Option β) : Rv.Spec β := fun args K => match args with
  | [.v (.agg [.int .i64 a0, .int .i64 a1]), .v (.one (.cref [.int .i64 c0] 0))] => q_impl_areTerms_1 a0 a1 c0 (fun z2 => K (.v (.one (.bool z2))))
  | _ => none
def S184 {β : Type} (N : Nat) : Rv.Spec β := VS184 N (impl_areTerms_1 N)
def VE184 {β : Type} (N : Nat) (q_impl_IsTerm : (a0 : Int) → (a1 : Int) → (a2 : Int) → (k : Bool → Option β) → Option β) : Env β := ⟨[(182, VS182 N q_impl_IsTerm)], [], [], [], ⟨[], [], [], []⟩⟩
def E184 {β : Type} (N : Nat) : Env β := VE184 N (impl_IsTerm N)
def BV_impl_areTerms_1 {β : Type} (N : Nat) (q_impl_IsTerm : (a0 : Int) → (a1 : Int) → (a2 : Int) → (k : Bool → Option β) → Option β) (a0 : Int) (a1 : Int) (c0 : Int) (k : Bool → Option β) : Option β :=
q_impl_IsTerm c0 a0 a1 fun r3 =>
k (!r3)
theorem t_impl_areTerms_1 {β : Type} (N : Nat) (a0 : Int) (a1 : Int) (c0 : Int) (k : Bool → Option β) : impl_areTerms_1 N a0 a1 c0 k = BV_impl_areTerms_1 N (impl_IsTerm N) a0 a1 c0 k := by
  unfold impl_areTerms_1 BV_impl_areTerms_1
  rfl
theorem ve184_0 {β : Type} (N : Nat) (q_impl_IsTerm : (a0 : Int) → (a1 : Int) → (a2 : Int) → (k : Bool → Option β) → Option β)  (a0 : Int) (a1 : Int) (c0 : Int) (K : TV → Option β) : evFn lay (VE184 N q_impl_IsTerm) Tryd.f184 [.v (.agg [.int .i64 a0, .int .i64 a1]), .v (.one (.cref [.int .i64 c0] 0))] K = BV_impl_areTerms_1 N q_impl_IsTerm a0 a1 c0 (fun z2 => K (.v (.one (.bool z2)))) := by kernel_rfl
theorem e184_0 {β : Type} (N : Nat)  (a0 : Int) (a1 : Int) (c0 : Int) (K : TV → Option β) : evFn lay (E184 N) Tryd.f184 [.v (.agg [.int .i64 a0, .int .i64 a1]), .v (.one (.cref [.int .i64 c0] 0))] K = impl_areTerms_1 N a0 a1 c0 (fun z2 => K (.v (.one (.bool z2)))) := (ve184_0 N (impl_IsTerm N) a0 a1 c0 K).trans (t_impl_areTerms_1 N a0 a1 c0 (fun z2 => K (.v (.one (.bool z2))))).symm
theorem o184 {β : Type} (N : Nat) : SpecOK (β := β) inv Tryd.prog 184 (S184 N) := by
  refine spec_of lay_ok mixed (E := E184 N) (specs_loops (specs_cons (o182 N) specs_nil)) muts_nil gs_nil Tryd.func184 (by kernel_rfl) 0 (by kernel_rfl) trivial fun args K r h => ?_
  unfold S184 VS184 at h
  split at h
  · exact (e184_0 N _ _ _ _).trans h
  · cases h
def VS221 {β : Type} (N : Nat) (q_slices_IndexFunc_Simpl_Term_impl_Term : (a0 : List (Int × Int)) → (a1 : (Int → Int → (Bool → Option β) → Option β)) → (k : Int → Option β) → Option β) (q_impl_areTerms_1 : (a0 : Int) → (a1 : Int) → (c0 : Int) → (k : Bool → Option β) → Option β) : Rv.Spec β := fun args K => match args with
  | [.v (.one (.sl 52 (.pairs a0))), .v (.one (.dfn 184 [([.int .i64 q0], 0)]))] => q_slices_IndexFunc_Simpl_Term_impl_Term a0 (fun x0 x1 k => q_impl_areTerms_1 x0 x1 q0 k) (fun z2 => K (.v (.one (.int .i64 z2))))
  | _ => none
def S221 {β : Type} (N : Nat) : Rv.Spec β := VS221 N (slices_IndexFunc_Simpl_Term_impl_Term N) (impl_areTerms_1 N)
def h221_0_0 (q0 : Int) (v0 : List (Int × Int)) (v1 : Int) (v2 : Int) : St := ⟨.v (.one (.sl 52 (.pairs v0))) :: .v (.one (.dfn 184 [([.int .i64 q0], 0)])) :: .v (.one .und) :: .v (.one .und) :: .v (.one .und) :: .v (.one .und) :: .v (.one .und) :: .v (.one (.int .i64 v1)) :: .v (.one (.int .i64 v2)) :: .v (.one .und) :: .v (.one .und) :: .v (.one .und) :: .v (.one .und) :: .v (.one .und) :: .v (.one .und) :: .v (.one .und) :: .v (.one .und) :: .v (.one .und) :: .v (.one .und) :: [], []⟩
def x221_0_0_k0 (q0 : Int) (y0 : Int) : St := ⟨.v (.one .und) :: .v (.one .und) :: .v (.one .und) :: .v (.one .und) :: .v (.one (.int .i64 y0)) :: .v (.one .und) :: .v (.one .und) :: .v (.one .und) :: .v (.one .und) :: .v (.one .und) :: .v (.one .und) :: .v (.one .und) :: .v (.one .und) :: .v (.one .und) :: .v (.one .und) :: .v (.one .und) :: .v (.one .und) :: .v (.one .und) :: .v (.one .und) :: [], []⟩
def x221_0_0_k1 (q0 : Int)  : St := ⟨.v (.one .und) :: .v (.one .und) :: .v (.one .und) :: .v (.one .und) :: .v (.one .und) :: .v (.one .und) :: .v (.one .und) :: .v (.one .und) :: .v (.one .und) :: .v (.one .und) :: .v (.one .und) :: .v (.one .und) :: .v (.one .und) :: .v (.one .und) :: .v (.one .und) :: .v (.one .und) :: .v (.one .und) :: .v (.one .und) :: .v (.one .und) :: [], []⟩
theorem fl221_0_0 (s : St) : refSt (h221_0_0 0 [] 0 0) s = h221_0_0 (intF (nx .no (nx ([], 0) (dfnS (oneA (vT (nx tund s.tmps 1)))) 0).1 0)) (rPairs (rowV (oneA (vT (nx tund s.tmps 0))))) (intS (oneA (vT (nx tund s.tmps 7)))) (intS (oneA (vT (nx tund s.tmps 8)))) := by kernel_rfl
def VLS221_0 {β : Type} (N : Nat) (q_slices_IndexFunc_Simpl_Term_impl_Term_l0 : (a1 : (Int → Int → (Bool → Option β) → Option β)) → Nat → List (Int × Int) → Int → Int → (Int → Option β) → (Option β) → Option β) (q_impl_areTerms_1 : (a0 : Int) → (a1 : Int) → (c0 : Int) → (k : Bool → Option β) → Option β) : LSpec β := fun s K => cond (shpSt (h221_0_0 0 [] 0 0) s) ((fun (q0 : Int) (v0 : List (Int × Int)) (v1 : Int) (v2 : Int) => q_slices_IndexFunc_Simpl_Term_impl_Term_l0 (fun x0 x1 k => q_impl_areTerms_1 x0 x1 q0 k) N v0 v1 v2 (fun y0 => K .ret (x221_0_0_k0 q0 y0)) (K (.exit 0) (x221_0_0_k1 q0 ))) (intF (nx .no (nx ([], 0) (dfnS (oneA (vT (nx tund s.tmps 1)))) 0).1 0)) (rPairs (rowV (oneA (vT (nx tund s.tmps 0))))) (intS (oneA (vT (nx tund s.tmps 7)))) (intS (oneA (vT (nx tund s.tmps 8))))) (none)
def LS221_0 {β : Type} (N : Nat) : LSpec β := VLS221_0 N (slices_IndexFunc_Simpl_Term_impl_Term_l0 N) (impl_areTerms_1 N)
def VE221 {β : Type} (N : Nat) (q_impl_areTerms_1 : (a0 : Int) → (a1 : Int) → (c0 : Int) → (k : Bool → Option β) → Option β) (q_slices_IndexFunc_Simpl_Term_impl_Term_l0 : (a1 : (Int → Int → (Bool → Option β) → Option β)) → Nat → List (Int × Int) → Int → Int → (Int → Option β) → (Option β) → Option β) : Env β := ⟨[(184, VS184 N q_impl_areTerms_1)], [], [(0, VLS221_0 N q_slices_IndexFunc_Simpl_Term_impl_Term_l0 q_impl_areTerms_1)], [], ⟨[], [], [], []⟩⟩
def E221 {β : Type} (N : Nat) : Env β := VE221 N (impl_areTerms_1 N) (slices_IndexFunc_Simpl_Term_impl_Term_l0 N)
def BV_slices_IndexFunc_Simpl_Term_impl_Term_l0b {β : Type} (N : Nat) (a1 : (Int → Int → (Bool → Option β) → Option β)) (v0 : List (Int × Int)) (v1 : Int) (v2 : Int) (rec_ : List (Int × Int) → Int → Int → Option β) (k0 : Int → Option β) (k1 : Option β) : Option β :=
(cond ((decide (v2 < v1)))
((gd ((decide (0 ≤ v2)))
((gd ((decide (v2 < (v0.length : Int))))
(a1 ((rd (0, 0) v0 v2).1) ((rd (0, 0) v0 v2).2) fun r3 =>
(cond r3
(k0 v2)
(rec_ v0 v1 ((w64 (v2 + 1))))))))))
(k1 ))
theorem t_slices_IndexFunc_Simpl_Term_impl_Term_l0b {β : Type} (N : Nat) (a1 : (Int → Int → (Bool → Option β) → Option β)) (v0 : List (Int × Int)) (v1 : Int) (v2 : Int) (rec_ : List (Int × Int) → Int → Int → Option β) (k0 : Int → Option β) (k1 : Option β) : slices_IndexFunc_Simpl_Term_impl_Term_l0b N a1 v0 v1 v2 rec_ k0 k1 = BV_slices_IndexFunc_Simpl_Term_impl_Term_l0b N a1 v0 v1 v2 rec_ k0 k1 := by
  unfold slices_IndexFunc_Simpl_Term_impl_Term_l0b BV_slices_IndexFunc_Simpl_Term_impl_Term_l0b
  rfl
theorem vst221_0_0 {β : Type} (N : Nat) (q_impl_areTerms_1 : (a0 : Int) → (a1 : Int) → (c0 : Int) → (k : Bool → Option β) → Option β) (q_slices_IndexFunc_Simpl_Term_impl_Term_l0 : (a1 : (Int → Int → (Bool → Option β) → Option β)) → Nat → List (Int × Int) → Int → Int → (Int → Option β) → (Option β) → Option β) (q0 : Int) (v0 : List (Int × Int)) (v1 : Int) (v2 : Int) (rec_ : St → Option β) (K : Exit → St → Option β) :
    ev lay (VE221 N q_impl_areTerms_1 q_slices_IndexFunc_Simpl_Term_impl_Term_l0) (retMask Tryd.f221) (lp Tryd.f221 0).body (lp Tryd.f221 0).ex ((lp Tryd.f221 0).lv (retMask Tryd.f221)) (h221_0_0 q0 v0 v1 v2) (nextR (fun s' => rec_ (s'.tidy ((lp Tryd.f221 0).lv (retMask Tryd.f221)))) K) = BV_slices_IndexFunc_Simpl_Term_impl_Term_l0b N (fun x0 x1 k => q_impl_areTerms_1 x0 x1 q0 k) v0 v1 v2 (fun v0 v1 v2 => rec_ (h221_0_0 q0 v0 v1 v2)) (fun y0 => K .ret (x221_0_0_k0 q0 y0)) (K (.exit 0) (x221_0_0_k1 q0 )) := by kernel_rfl
theorem st221_0_0 {β : Type} (N : Nat) (q0 : Int) (v0 : List (Int × Int)) (v1 : Int) (v2 : Int) (rec_ : St → Option β) (K : Exit → St → Option β) :
    ev lay (E221 N) (retMask Tryd.f221) (lp Tryd.f221 0).body (lp Tryd.f221 0).ex ((lp Tryd.f221 0).lv (retMask Tryd.f221)) (h221_0_0 q0 v0 v1 v2) (nextR (fun s' => rec_ (s'.tidy ((lp Tryd.f221 0).lv (retMask Tryd.f221)))) K) = slices_IndexFunc_Simpl_Term_impl_Term_l0b N (fun x0 x1 k => impl_areTerms_1 N x0 x1 q0 k) v0 v1 v2 (fun v0 v1 v2 => rec_ (h221_0_0 q0 v0 v1 v2)) (fun y0 => K .ret (x221_0_0_k0 q0 y0)) (K (.exit 0) (x221_0_0_k1 q0 )) := (vst221_0_0 N (impl_areTerms_1 N) (slices_IndexFunc_Simpl_Term_impl_Term_l0 N) q0 v0 v1 v2 rec_ K).trans (t_slices_IndexFunc_Simpl_Term_impl_Term_l0b N (fun x0 x1 k => impl_areTerms_1 N x0 x1 q0 k) v0 v1 v2 (fun v0 v1 v2 => rec_ (h221_0_0 q0 v0 v1 v2)) (fun y0 => K .ret (x221_0_0_k0 q0 y0)) (K (.exit 0) (x221_0_0_k1 q0 ))).symm
theorem ro221_0_0 {β : Type} (N : Nat) (q0 : Int) (K : Exit → St → Option β) : ∀ (F : Nat) (v0 : List (Int × Int)) (v1 : Int) (v2 : Int), (lp Tryd.f221 0).rounds lay (E221 N) (retMask Tryd.f221) F (h221_0_0 q0 v0 v1 v2) K = slices_IndexFunc_Simpl_Term_impl_Term_l0 N (fun x0 x1 k => impl_areTerms_1 N x0 x1 q0 k) F v0 v1 v2 (fun y0 => K .ret (x221_0_0_k0 q0 y0)) (K (.exit 0) (x221_0_0_k1 q0 )) := by
  intro F
  induction F with
  | zero => intros; rfl
  | succ F ih =>
    intros
    rw [rounds_next]
    refine (st221_0_0 N q0 _ _ _ (fun s => (lp Tryd.f221 0).rounds lay (E221 N) (retMask Tryd.f221) F s K) K).trans ?_
    simp only [ih]
    rfl
theorem lk221_0 {β : Type} (N : Nat) : lookL (E221 (β := β) N).loops (lp Tryd.f221 0).id = LS221_0 N := by kernel_rfl
theorem rk221_0 {β : Type} (N : Nat) : RoundsOK lay (E221 (β := β) N) (retMask Tryd.f221) (lp Tryd.f221 0) := by
  intro s K r h
  rw [lk221_0] at h
  unfold LS221_0 VLS221_0 at h
  cases hb : shpSt (h221_0_0 0 [] 0 0) s with
  | true =>
    rw [hb, cond_true] at h
    exact ⟨N, by rw [← shpSt_ref hb, fl221_0_0 s]; exact (ro221_0_0 N (intF (nx .no (nx ([], 0) (dfnS (oneA (vT (nx tund s.tmps 1)))) 0).1 0)) K N (rPairs (rowV (oneA (vT (nx tund s.tmps 0))))) (intS (oneA (vT (nx tund s.tmps 7)))) (intS (oneA (vT (nx tund s.tmps 8))))).trans h⟩
  | false =>
  rw [hb, cond_false] at h
  clear hb
  cases h
def BV_slices_IndexFunc_Simpl_Term_impl_Term {β : Type} (N : Nat) (q_slices_IndexFunc_Simpl_Term_impl_Term_l0 : (a1 : (Int → Int → (Bool → Option β) → Option β)) → Nat → List (Int × Int) → Int → Int → (Int → Option β) → (Option β) → Option β) (a0 : List (Int × Int)) (a1 : (Int → Int → (Bool → Option β) → Option β)) (k : Int → Option β) : Option β :=
q_slices_IndexFunc_Simpl_Term_impl_Term_l0 a1 N a0 ((a0.length : Int)) 0 (fun e4_0 =>
k e4_0) (k (-1))
theorem t_slices_IndexFunc_Simpl_Term_impl_Term {β : Type} (N : Nat) (a0 : List (Int × Int)) (a1 : (Int → Int → (Bool → Option β) → Option β)) (k : Int → Option β) : slices_IndexFunc_Simpl_Term_impl_Term N a0 a1 k = BV_slices_IndexFunc_Simpl_Term_impl_Term N (slices_IndexFunc_Simpl_Term_impl_Term_l0 N) a0 a1 k := by
  unfold slices_IndexFunc_Simpl_Term_impl_Term BV_slices_IndexFunc_Simpl_Term_impl_Term
  rfl
theorem ve221_0 {β : Type} (N : Nat) (q_impl_areTerms_1 : (a0 : Int) → (a1 : Int) → (c0 : Int) → (k : Bool → Option β) → Option β) (q_slices_IndexFunc_Simpl_Term_impl_Term_l0 : (a1 : (Int → Int → (Bool → Option β) → Option β)) → Nat → List (Int × Int) → Int → Int → (Int → Option β) → (Option β) → Option β) (q0 : Int) (a0 : List (Int × Int)) (K : TV → Option β) : evFn lay (VE221 N q_impl_areTerms_1 q_slices_IndexFunc_Simpl_Term_impl_Term_l0) Tryd.f221 [.v (.one (.sl 52 (.pairs a0))), .v (.one (.dfn 184 [([.int .i64 q0], 0)]))] K = BV_slices_IndexFunc_Simpl_Term_impl_Term N q_slices_IndexFunc_Simpl_Term_impl_Term_l0 a0 (fun x0 x1 k => q_impl_areTerms_1 x0 x1 q0 k) (fun z2 => K (.v (.one (.int .i64 z2)))) := by kernel_rfl
theorem e221_0 {β : Type} (N : Nat) (q0 : Int) (a0 : List (Int × Int)) (K : TV → Option β) : evFn lay (E221 N) Tryd.f221 [.v (.one (.sl 52 (.pairs a0))), .v (.one (.dfn 184 [([.int .i64 q0], 0)]))] K = slices_IndexFunc_Simpl_Term_impl_Term N a0 (fun x0 x1 k => impl_areTerms_1 N x0 x1 q0 k) (fun z2 => K (.v (.one (.int .i64 z2)))) := (ve221_0 N (impl_areTerms_1 N) (slices_IndexFunc_Simpl_Term_impl_Term_l0 N) q0 a0 K).trans (t_slices_IndexFunc_Simpl_Term_impl_Term N a0 (fun x0 x1 k => impl_areTerms_1 N x0 x1 q0 k) (fun z2 => K (.v (.one (.int .i64 z2))))).symm
theorem o221 {β : Type} (N : Nat) : SpecOK (β := β) inv Tryd.prog 221 (S221 N) := by
  refine spec_of lay_ok mixed (E := E221 N) (specs_loops (specs_cons (o184 N) specs_nil)) muts_nil gs_nil Tryd.func221 (by kernel_rfl) 1 (by kernel_rfl) ⟨trivial, rk221_0 N⟩ fun args K r h => ?_
  unfold S221 VS221 at h
  split at h
  · exact (e221_0 N _ _ _).trans h
  · cases h
def VS183 {β : Type} (N : Nat) (q_slices_ContainsFunc_Simpl_Term_impl_Term : (a0 : List (Int × Int)) → (a1 : (Int → Int → (Bool → Option β) → Option β)) → (k : Bool → Option β) → Option β) (q_impl_areTerms_1 : (a0 : Int) → (a1 : Int) → (c0 : Int) → (k : Bool → Option β) → Option β) : Rv.Spec β := fun args K => match args with
  | [.v (.one (.sl 52 (.pairs a0))), .v (.one (.dfn 184 [([.int .i64 q0], 0)]))] => q_slices_ContainsFunc_Simpl_Term_impl_Term a0 (fun x0 x1 k => q_impl_areTerms_1 x0 x1 q0 k) (fun z2 => K (.v (.one (.bool z2))))
  | _ => none
def S183 {β : Type} (N : Nat) : Rv.Spec β := VS183 N (slices_ContainsFunc_Simpl_Term_impl_Term N) (impl_areTerms_1 N)
def VE183 {β : Type} (N : Nat) (q_slices_IndexFunc_Simpl_Term_impl_Term : (a0 : List (Int × Int)) → (a1 : (Int → Int → (Bool → Option β) → Option β)) → (k : Int → Option β) → Option β) (q_impl_areTerms_1 : (a0 : Int) → (a1 : Int) → (c0 : Int) → (k : Bool → Option β) → Option β) : Env β := ⟨[(221, VS221 N q_slices_IndexFunc_Simpl_Term_impl_Term q_impl_areTerms_1), (184, VS184 N q_impl_areTerms_1)], [], [], [], ⟨[], [], [], []⟩⟩
def E183 {β : Type} (N : Nat) : Env β := VE183 N (slices_IndexFunc_Simpl_Term_impl_Term N) (impl_areTerms_1 N)
def BV_slices_ContainsFunc_Simpl_Term_impl_Term {β : Type} (N : Nat) (q_slices_IndexFunc_Simpl_Term_impl_Term : (a0 : List (Int × Int)) → (a1 : (Int → Int → (Bool → Option β) → Option β)) → (k : Int → Option β) → Option β) (a0 : List (Int × Int)) (a1 : (Int → Int → (Bool → Option β) → Option β)) (k : Bool → Option β) : Option β :=
q_slices_IndexFunc_Simpl_Term_impl_Term a0 a1 fun r3 =>
k ((decide (r3 ≥ 0)))
theorem t_slices_ContainsFunc_Simpl_Term_impl_Term {β : Type} (N : Nat) (a0 : List (Int × Int)) (a1 : (Int → Int → (Bool → Option β) → Option β)) (k : Bool → Option β) : slices_ContainsFunc_Simpl_Term_impl_Term N a0 a1 k = BV_slices_ContainsFunc_Simpl_Term_impl_Term N (slices_IndexFunc_Simpl_Term_impl_Term N) a0 a1 k := by
  unfold slices_ContainsFunc_Simpl_Term_impl_Term BV_slices_ContainsFunc_Simpl_Term_impl_Term
  rfl
theorem ve183_0 {β : Type} (N : Nat) (q_slices_IndexFunc_Simpl_Term_impl_Term : (a0 : List (Int × Int)) → (a1 : (Int → Int → (Bool → Option β) → Option β)) → (k : Int → Option β) → Option β) (q_impl_areTerms_1 : (a0 : Int) → (a1 : Int) → (c0 : Int) → (k : Bool → Option β) → Option β) (q0 : Int) (a0 : List (Int × Int)) (K : TV → Option β) : evFn lay (VE183 N q_slices_IndexFunc_Simpl_Term_impl_Term q_impl_areTerms_1) Tryd.f183 [.v (.one (.sl 52 (.pairs a0))), .v (.one (.dfn 184 [([.int .i64 q0], 0)]))] K = BV_slices_ContainsFunc_Simpl_Term_impl_Term N q_slices_IndexFunc_Simpl_Term_impl_Term a0 (fun x0 x1 k => q_impl_areTerms_1 x0 x1 q0 k) (fun z2 => K (.v (.one (.bool z2)))) := by kernel_rfl
theorem e183_0 {β : Type} (N : Nat) (q0 : Int) (a0 : List (Int × Int)) (K : TV → Option β) : evFn lay (E183 N) Tryd.f183 [.v (.one (.sl 52 (.pairs a0))), .v (.one (.dfn 184 [([.int .i64 q0], 0)]))] K = slices_ContainsFunc_Simpl_Term_impl_Term N a0 (fun x0 x1 k => impl_areTerms_1 N x0 x1 q0 k) (fun z2 => K (.v (.one (.bool z2)))) := (ve183_0 N (slices_IndexFunc_Simpl_Term_impl_Term N) (impl_areTerms_1 N) q0 a0 K).trans (t_slices_ContainsFunc_Simpl_Term_impl_Term N a0 (fun x0 x1 k => impl_areTerms_1 N x0 x1 q0 k) (fun z2 => K (.v (.one (.bool z2))))).symm
theorem o183 {β : Type} (N : Nat) : SpecOK (β := β) inv Tryd.prog 183 (S183 N) := by
  refine spec_of lay_ok mixed (E := E183 N) (specs_loops (specs_cons (o221 N) (specs_cons (o184 N) specs_nil))) muts_nil gs_nil Tryd.func183 (by kernel_rfl) 0 (by kernel_rfl) trivial fun args K r h => ?_
  unfold S183 VS183 at h
  split at h
  · exact (e183_0 N _ _ _).trans h
  · cases h
def VS122 {β : Type} (N : Nat) (q_impl_areTerms : (a0 : Int) → (a1 : List (Int × Int)) → (k : Bool → Option β) → Option β) : Rv.Spec β := fun args K => match args with
  | [.v (.one (.int .i64 a0)), .v (.one (.sl 52 (.pairs a1)))] => q_impl_areTerms a0 a1 (fun z2 => K (.v (.one (.bool z2))))
  | _ => none
def S122 {β : Type} (N : Nat) : Rv.Spec β := VS122 N (impl_areTerms N)
def VE122 {β : Type} (N : Nat) (q_impl_isBits : (a0 : Int) → (k : Bool → Option β) → Option β) (q_slices_ContainsFunc_Simpl_Term_impl_Term : (a0 : List (Int × Int)) → (a1 : (Int → Int → (Bool → Option β) → Option β)) → (k : Bool → Option β) → Option β) (q_impl_areTerms_1 : (a0 : Int) → (a1 : Int) → (c0 : Int) → (k : Bool → Option β) → Option β) : Env β := ⟨[(46, VS46 N q_impl_isBits), (183, VS183 N q_slices_ContainsFunc_Simpl_Term_impl_Term q_impl_areTerms_1), (184, VS184 N q_impl_areTerms_1)], [], [], [], ⟨[], [], [], []⟩⟩
def E122 {β : Type} (N : Nat) : Env β := VE122 N (impl_isBits N) (slices_ContainsFunc_Simpl_Term_impl_Term N) (impl_areTerms_1 N)
def BV_impl_areTerms {β : Type} (N : Nat) (q_impl_isBits : (a0 : Int) → (k : Bool → Option β) → Option β) (q_slices_ContainsFunc_Simpl_Term_impl_Term : (a0 : List (Int × Int)) → (a1 : (Int → Int → (Bool → Option β) → Option β)) → (k : Bool → Option β) → Option β) (q_impl_areTerms_1 : (a0 : Int) → (a1 : Int) → (c0 : Int) → (k : Bool → Option β) → Option β) (a0 : Int) (a1 : List (Int × Int)) (k : Bool → Option β) : Option β :=
q_impl_isBits a0 fun r3 =>
(cond r3
(q_slices_ContainsFunc_Simpl_Term_impl_Term a1 (fun x0 x1 k => q_impl_areTerms_1 x0 x1 a0 k) fun r4 =>
k (!r4))
(k false))
theorem t_impl_areTerms {β : Type} (N : Nat) (a0 : Int) (a1 : List (Int × Int)) (k : Bool → Option β) : impl_areTerms N a0 a1 k = BV_impl_areTerms N (impl_isBits N) (slices_ContainsFunc_Simpl_Term_impl_Term N) (impl_areTerms_1 N) a0 a1 k := by
  unfold impl_areTerms BV_impl_areTerms
  rfl
theorem ve122_0 {β : Type} (N : Nat) (q_impl_isBits : (a0 : Int) → (k : Bool → Option β) → Option β) (q_slices_ContainsFunc_Simpl_Term_impl_Term : (a0 : List (Int × Int)) → (a1 : (Int → Int → (Bool → Option β) → Option β)) → (k : Bool → Option β) → Option β) (q_impl_areTerms_1 : (a0 : Int) → (a1 : Int) → (c0 : Int) → (k : Bool → Option β) → Option β)  (a0 : Int) (a1 : List (Int × Int)) (K : TV → Option β) : evFn lay (VE122 N q_impl_isBits q_slices_ContainsFunc_Simpl_Term_impl_Term q_impl_areTerms_1) Tryd.f122 [.v (.one (.int .i64 a0)), .v (.one (.sl 52 (.pairs a1)))] K = BV_impl_areTerms N q_impl_isBits q_slices_ContainsFunc_Simpl_Term_impl_Term q_impl_areTerms_1 a0 a1 (fun z2 => K (.v (.one (.bool z2)))) := by kernel_rfl
theorem e122_0 {β : Type} (N : Nat)  (a0 : Int) (a1 : List (Int × Int)) (K : TV → Option β) : evFn lay (E122 N) Tryd.f122 [.v (.one (.int .i64 a0)), .v (.one (.sl 52 (.pairs a1)))] K = impl_areTerms N a0 a1 (fun z2 => K (.v (.one (.bool z2)))) := (ve122_0 N (impl_isBits N) (slices_ContainsFunc_Simpl_Term_impl_Term N) (impl_areTerms_1 N) a0 a1 K).trans (t_impl_areTerms N a0 a1 (fun z2 => K (.v (.one (.bool z2))))).symm
theorem o122 {β : Type} (N : Nat) : SpecOK (β := β) inv Tryd.prog 122 (S122 N) := by
  refine spec_of lay_ok mixed (E := E122 N) (specs_loops (specs_cons (o46 N) (specs_cons (o183 N) (specs_cons (o184 N) specs_nil)))) muts_nil gs_nil Tryd.func122 (by kernel_rfl) 0 (by kernel_rfl) trivial fun args K r h => ?_
  unfold S122 VS122 at h
  split at h
  · exact (e122_0 N _ _ _).trans h
  · cases h
def VS49 {β : Type} (N : Nat) (q_impl_areValid : (a0 : Int) → (a1 : List (Int × Int)) → (k : Bool → Option β) → Option β) : Rv.Spec β := fun args K => match args with
  | [.v (.one (.int .i64 a0)), .v (.one (.sl 52 (.pairs a1)))] => q_impl_areValid a0 a1 (fun z2 => K (.v (.one (.bool z2))))
  | _ => none
def S49 {β : Type} (N : Nat) : Rv.Spec β := VS49 N (impl_areValid N)
def VE49 {β : Type} (N : Nat) (q_impl_areTerms : (a0 : Int) → (a1 : List (Int × Int)) → (k : Bool → Option β) → Option β) : Env β := ⟨[(122, VS122 N q_impl_areTerms)], [], [], [], ⟨[], [], [], []⟩⟩
def E49 {β : Type} (N : Nat) : Env β := VE49 N (impl_areTerms N)
def BV_impl_areValid {β : Type} (N : Nat) (q_impl_areTerms : (a0 : Int) → (a1 : List (Int × Int)) → (k : Bool → Option β) → Option β) (a0 : Int) (a1 : List (Int × Int)) (k : Bool → Option β) : Option β :=
q_impl_areTerms a0 a1 fun r3 =>
(cond r3
(k ((decide ((a1.length : Int) ≤ 40))))
(k false))
theorem t_impl_areValid {β : Type} (N : Nat) (a0 : Int) (a1 : List (Int × Int)) (k : Bool → Option β) : impl_areValid N a0 a1 k = BV_impl_areValid N (impl_areTerms N) a0 a1 k := by
  unfold impl_areValid BV_impl_areValid
  rfl
theorem ve49_0 {β : Type} (N : Nat) (q_impl_areTerms : (a0 : Int) → (a1 : List (Int × Int)) → (k : Bool → Option β) → Option β)  (a0 : Int) (a1 : List (Int × Int)) (K : TV → Option β) : evFn lay (VE49 N q_impl_areTerms) Tryd.f49 [.v (.one (.int .i64 a0)), .v (.one (.sl 52 (.pairs a1)))] K = BV_impl_areValid N q_impl_areTerms a0 a1 (fun z2 => K (.v (.one (.bool z2)))) := by kernel_rfl
theorem e49_0 {β : Type} (N : Nat)  (a0 : Int) (a1 : List (Int × Int)) (K : TV → Option β) : evFn lay (E49 N) Tryd.f49 [.v (.one (.int .i64 a0)), .v (.one (.sl 52 (.pairs a1)))] K = impl_areValid N a0 a1 (fun z2 => K (.v (.one (.bool z2)))) := (ve49_0 N (impl_areTerms N) a0 a1 K).trans (t_impl_areValid N a0 a1 (fun z2 => K (.v (.one (.bool z2))))).symm
theorem o49 {β : Type} (N : Nat) : SpecOK (β := β) inv Tryd.prog 49 (S49 N) := by
  refine spec_of lay_ok mixed (E := E49 N) (specs_loops (specs_cons (o122 N) specs_nil)) muts_nil gs_nil Tryd.func49 (by kernel_rfl) 0 (by kernel_rfl) trivial fun args K r h => ?_
  unfold S49 VS49 at h
  split at h
  · exact (e49_0 N _ _ _).trans h
  · cases h
def VS19 {β : Type} (N : Nat) (q_impl_ParseSum : (a0 : Int) → (a1 : ByteArray) → (k : List (Int × Int) → Bool → Option β) → Option β) : Rv.Spec β := fun args K => match args with
  | [.v (.one (.int .i64 a0)), .v (.one (.str a1))] => q_impl_ParseSum a0 a1 (fun z2 z3 => K (.tup [.one (.sl 52 (.pairs z2)), .one (.bool z3)]))
  | _ => none
def S19 {β : Type} (N : Nat) : Rv.Spec β := VS19 N (impl_ParseSum N)
def h19_0_0  (v0 : Int) (v1 : Int) (v2 : Int) (v3 : List (Int × Int)) (v4 : List ByteArray) : St := ⟨.v (.one (.int .i64 v0)) :: .v (.one .und) :: .v (.one .und) :: .v (.one .und) :: .v (.one .und) :: .v (.one .und) :: .v (.one (.row 0)) :: .v (.one .und) :: .v (.one .und) :: .v (.one .und) :: .v (.one .und) :: .v (.one .und) :: .v (.one .und) :: .v (.one .und) :: .v (.one .und) :: .v (.one .und) :: .v (.one .und) :: .v (.one .und) :: .v (.one .und) :: .v (.one .und) :: .v (.one .und) :: .v (.one .und) :: .v (.one (.row 1)) :: .v (.one (.int .i64 v1)) :: .v (.one (.int .i64 v2)) :: .v (.one .und) :: .v (.one .und) :: .v (.one .und) :: .v (.one .und) :: .v (.one .und) :: .v (.one .und) :: .v (.one .und) :: .v (.one .und) :: .v (.one .und) :: .v (.one .und) :: .v (.one .und) :: .v (.one .und) :: .v (.one .und) :: .v (.one .und) :: .v (.one .und) :: .v (.one .und) :: .v (.one .und) :: .v (.one .und) :: .v (.one .und) :: .v (.one .und) :: .v (.one .und) :: [], [.row 52 (.pairs v3), .row 9 (.strs v4)]⟩
def x19_0_0_k0  (y0 : Bool) (y1 : List (Int × Int)) : St := ⟨.v (.one .und) :: .v (.one .und) :: .v (.one .und) :: .v (.one .und) :: .v (.one (.row 0)) :: .v (.one (.bool y0)) :: .v (.one .und) :: .v (.one .und) :: .v (.one .und) :: .v (.one .und) :: .v (.one .und) :: .v (.one .und) :: .v (.one .und) :: .v (.one .und) :: .v (.one .und) :: .v (.one .und) :: .v (.one .und) :: .v (.one .und) :: .v (.one .und) :: .v (.one .und) :: .v (.one .und) :: .v (.one .und) :: .v (.one .und) :: .v (.one .und) :: .v (.one .und) :: .v (.one .und) :: .v (.one .und) :: .v (.one .und) :: .v (.one .und) :: .v (.one .und) :: .v (.one .und) :: .v (.one .und) :: .v (.one .und) :: .v (.one .und) :: .v (.one .und) :: .v (.one .und) :: .v (.one .und) :: .v (.one .und) :: .v (.one .und) :: .v (.one .und) :: .v (.one .und) :: .v (.one .und) :: .v (.one .und) :: .v (.one .und) :: .v (.one .und) :: .v (.one .und) :: [], [.row 52 (.pairs y1)]⟩
def x19_0_0_k1  (y0 : Int) (y1 : List (Int × Int)) : St := ⟨.v (.one (.int .i64 y0)) :: .v (.one .und) :: .v (.one .und) :: .v (.one .und) :: .v (.one .und) :: .v (.one .und) :: .v (.one (.row 0)) :: .v (.one .und) :: .v (.one .und) :: .v (.one .und) :: .v (.one .und) :: .v (.one .und) :: .v (.one .und) :: .v (.one .und) :: .v (.one .und) :: .v (.one .und) :: .v (.one .und) :: .v (.one .und) :: .v (.one .und) :: .v (.one .und) :: .v (.one .und) :: .v (.one .und) :: .v (.one .und) :: .v (.one .und) :: .v (.one .und) :: .v (.one .und) :: .v (.one .und) :: .v (.one .und) :: .v (.one .und) :: .v (.one .und) :: .v (.one .und) :: .v (.one .und) :: .v (.one .und) :: .v (.one .und) :: .v (.one .und) :: .v (.one .und) :: .v (.one .und) :: .v (.one .und) :: .v (.one .und) :: .v (.one .und) :: .v (.one .und) :: .v (.one .und) :: .v (.one .und) :: .v (.one .und) :: .v (.one .und) :: .v (.one .und) :: [], [.row 52 (.pairs y1)]⟩
theorem fl19_0_0 (s : St) : refSt (h19_0_0 0 0 0 [] []) s = h19_0_0 (intS (oneA (vT (nx tund s.tmps 0)))) (intS (oneA (vT (nx tund s.tmps 23)))) (intS (oneA (vT (nx tund s.tmps 24)))) (rPairs (rowB_ (nx .dead s.blks 0))) (rStrs (rowB_ (nx .dead s.blks 1))) := by kernel_rfl
def VLS19_0 {β : Type} (N : Nat) (q_impl_ParseSum_l0 : Nat → Int → Int → Int → List (Int × Int) → List ByteArray → (Bool → List (Int × Int) → Option β) → (Int → List (Int × Int) → Option β) → Option β) : LSpec β := fun s K => cond (shpSt (h19_0_0 0 0 0 [] []) s) ((fun (v0 : Int) (v1 : Int) (v2 : Int) (v3 : List (Int × Int)) (v4 : List ByteArray) => q_impl_ParseSum_l0  N v0 v1 v2 v3 v4 (fun y0 y1 => K .ret (x19_0_0_k0  y0 y1)) (fun y0 y1 => K (.exit 0) (x19_0_0_k1  y0 y1))) (intS (oneA (vT (nx tund s.tmps 0)))) (intS (oneA (vT (nx tund s.tmps 23)))) (intS (oneA (vT (nx tund s.tmps 24)))) (rPairs (rowB_ (nx .dead s.blks 0))) (rStrs (rowB_ (nx .dead s.blks 1)))) (none)
def LS19_0 {β : Type} (N : Nat) : LSpec β := VLS19_0 N (impl_ParseSum_l0 N)
def VE19 {β : Type} (N : Nat) (q_impl_isBits : (a0 : Int) → (k : Bool → Option β) → Option β) (q_impl_ParseTerm : (a0 : Int) → (a1 : ByteArray) → (k : Int → Int → Bool → Option β) → Option β) (q_impl_areValid : (a0 : Int) → (a1 : List (Int × Int)) → (k : Bool → Option β) → Option β) (q_impl_ParseSum_l0 : Nat → Int → Int → Int → List (Int × Int) → List ByteArray → (Bool → List (Int × Int) → Option β) → (Int → List (Int × Int) → Option β) → Option β) : Env β := ⟨[(46, VS46 N q_impl_isBits), (47, S47 N), (48, VS48 N q_impl_ParseTerm), (49, VS49 N q_impl_areValid)], [], [(0, VLS19_0 N q_impl_ParseSum_l0)], [], ⟨[], [], [], []⟩⟩
def E19 {β : Type} (N : Nat) : Env β := VE19 N (impl_isBits N) (impl_ParseTerm N) (impl_areValid N) (impl_ParseSum_l0 N)
def BV_impl_ParseSum_l0b {β : Type} (N : Nat) (q_impl_ParseTerm : (a0 : Int) → (a1 : ByteArray) → (k : Int → Int → Bool → Option β) → Option β)  (v0 : Int) (v1 : Int) (v2 : Int) (v3 : List (Int × Int)) (v4 : List ByteArray) (rec_ : Int → Int → Int → List (Int × Int) → List ByteArray → Option β) (k0 : Bool → List (Int × Int) → Option β) (k1 : Int → List (Int × Int) → Option β) : Option β :=
(cond ((decide (v2 < v1)))
((gd ((decide (0 ≤ v2)))
((gd ((decide (v2 < (v4.length : Int))))
(q_impl_ParseTerm v0 ((rd ByteArray.empty v4 v2)) fun r6 r7 r8 =>
(cond (!r8)
(k0 false (([] : List (Int × Int))))
((gd ((decide ((v3.length + ((([] : List (Int × Int)) ++ [(r6, r7)])).length) * 16 ≤ 140737488355328)))
(rec_ v0 v1 ((w64 (v2 + 1))) ((v3 ++ (([] : List (Int × Int)) ++ [(r6, r7)]))) v4)))))))))
(k1 v0 v3))
theorem t_impl_ParseSum_l0b {β : Type} (N : Nat)  (v0 : Int) (v1 : Int) (v2 : Int) (v3 : List (Int × Int)) (v4 : List ByteArray) (rec_ : Int → Int → Int → List (Int × Int) → List ByteArray → Option β) (k0 : Bool → List (Int × Int) → Option β) (k1 : Int → List (Int × Int) → Option β) : impl_ParseSum_l0b N v0 v1 v2 v3 v4 rec_ k0 k1 = BV_impl_ParseSum_l0b N (impl_ParseTerm N) v0 v1 v2 v3 v4 rec_ k0 k1 := by
  unfold impl_ParseSum_l0b BV_impl_ParseSum_l0b
  rfl
theorem vst19_0_0 {β : Type} (N : Nat) (q_impl_isBits : (a0 : Int) → (k : Bool → Option β) → Option β) (q_impl_ParseTerm : (a0 : Int) → (a1 : ByteArray) → (k : Int → Int → Bool → Option β) → Option β) (q_impl_areValid : (a0 : Int) → (a1 : List (Int × Int)) → (k : Bool → Option β) → Option β) (q_impl_ParseSum_l0 : Nat → Int → Int → Int → List (Int × Int) → List ByteArray → (Bool → List (Int × Int) → Option β) → (Int → List (Int × Int) → Option β) → Option β)  (v0 : Int) (v1 : Int) (v2 : Int) (v3 : List (Int × Int)) (v4 : List ByteArray) (rec_ : St → Option β) (K : Exit → St → Option β) :
    ev lay (VE19 N q_impl_isBits q_impl_ParseTerm q_impl_areValid q_impl_ParseSum_l0) (retMask Tryd.f19) (lp Tryd.f19 0).body (lp Tryd.f19 0).ex ((lp Tryd.f19 0).lv (retMask Tryd.f19)) (h19_0_0  v0 v1 v2 v3 v4) (nextR (fun s' => rec_ (s'.tidy ((lp Tryd.f19 0).lv (retMask Tryd.f19)))) K) = BV_impl_ParseSum_l0b N q_impl_ParseTerm  v0 v1 v2 v3 v4 (fun v0 v1 v2 v3 v4 => rec_ (h19_0_0  v0 v1 v2 v3 v4)) (fun y0 y1 => K .ret (x19_0_0_k0  y0 y1)) (fun y0 y1 => K (.exit 0) (x19_0_0_k1  y0 y1)) := by kernel_rfl
theorem st19_0_0 {β : Type} (N : Nat)  (v0 : Int) (v1 : Int) (v2 : Int) (v3 : List (Int × Int)) (v4 : List ByteArray) (rec_ : St → Option β) (K : Exit → St → Option β) :
    ev lay (E19 N) (retMask Tryd.f19) (lp Tryd.f19 0).body (lp Tryd.f19 0).ex ((lp Tryd.f19 0).lv (retMask Tryd.f19)) (h19_0_0  v0 v1 v2 v3 v4) (nextR (fun s' => rec_ (s'.tidy ((lp Tryd.f19 0).lv (retMask Tryd.f19)))) K) = impl_ParseSum_l0b N  v0 v1 v2 v3 v4 (fun v0 v1 v2 v3 v4 => rec_ (h19_0_0  v0 v1 v2 v3 v4)) (fun y0 y1 => K .ret (x19_0_0_k0  y0 y1)) (fun y0 y1 => K (.exit 0) (x19_0_0_k1  y0 y1)) := (vst19_0_0 N (impl_isBits N) (impl_ParseTerm N) (impl_areValid N) (impl_ParseSum_l0 N) v0 v1 v2 v3 v4 rec_ K).trans (t_impl_ParseSum_l0b N  v0 v1 v2 v3 v4 (fun v0 v1 v2 v3 v4 => rec_ (h19_0_0  v0 v1 v2 v3 v4)) (fun y0 y1 => K .ret (x19_0_0_k0  y0 y1)) (fun y0 y1 => K (.exit 0) (x19_0_0_k1  y0 y1))).symm
theorem ro19_0_0 {β : Type} (N : Nat)  (K : Exit → St → Option β) : ∀ (F : Nat) (v0 : Int) (v1 : Int) (v2 : Int) (v3 : List (Int × Int)) (v4 : List ByteArray), (lp Tryd.f19 0).rounds lay (E19 N) (retMask Tryd.f19) F (h19_0_0  v0 v1 v2 v3 v4) K = impl_ParseSum_l0 N  F v0 v1 v2 v3 v4 (fun y0 y1 => K .ret (x19_0_0_k0  y0 y1)) (fun y0 y1 => K (.exit 0) (x19_0_0_k1  y0 y1)) := by
  intro F
  induction F with
  | zero => intros; rfl
  | succ F ih =>
    intros
    rw [rounds_next]
    refine (st19_0_0 N  _ _ _ _ _ (fun s => (lp Tryd.f19 0).rounds lay (E19 N) (retMask Tryd.f19) F s K) K).trans ?_
    simp only [ih]
    rfl
theorem lk19_0 {β : Type} (N : Nat) : lookL (E19 (β := β) N).loops (lp Tryd.f19 0).id = LS19_0 N := by kernel_rfl
theorem rk19_0 {β : Type} (N : Nat) : RoundsOK lay (E19 (β := β) N) (retMask Tryd.f19) (lp Tryd.f19 0) := by
  intro s K r h
  rw [lk19_0] at h
  unfold LS19_0 VLS19_0 at h
  cases hb : shpSt (h19_0_0 0 0 0 [] []) s with
  | true =>
    rw [hb, cond_true] at h
    exact ⟨N, by rw [← shpSt_ref hb, fl19_0_0 s]; exact (ro19_0_0 N  K N (intS (oneA (vT (nx tund s.tmps 0)))) (intS (oneA (vT (nx tund s.tmps 23)))) (intS (oneA (vT (nx tund s.tmps 24)))) (rPairs (rowB_ (nx .dead s.blks 0))) (rStrs (rowB_ (nx .dead s.blks 1)))).trans h⟩
  | false =>
  rw [hb, cond_false] at h
  clear hb
  cases h
def BV_impl_ParseSum {β : Type} (N : Nat) (q_impl_isBits : (a0 : Int) → (k : Bool → Option β) → Option β) (q_impl_ParseSum_l0 : Nat → Int → Int → Int → List (Int × Int) → List ByteArray → (Bool → List (Int × Int) → Option β) → (Int → List (Int × Int) → Option β) → Option β) (q_impl_areValid : (a0 : Int) → (a1 : List (Int × Int)) → (k : Bool → Option β) → Option β) (a0 : Int) (a1 : ByteArray) (k : List (Int × Int) → Bool → Option β) : Option β :=
q_impl_isBits a0 fun r4 =>
(cond (!r4)
(k (([] : List (Int × Int))) false)
((cond ((decide ((a1.size : Int) > 200)))
(k (([] : List (Int × Int))) false)
((cond ((a1.toList == ((strOf [48])).toList))
(k (([] : List (Int × Int))) true)
(strings_Split N a1 ((strOf [124])) fun r5 =>
q_impl_ParseSum_l0  N a0 ((r5.length : Int)) 0 (([] : List (Int × Int))) r5 (fun e9_0 e9_1 =>
k e9_1 e9_0) (fun e10_0 e10_1 =>
q_impl_areValid e10_0 e10_1 fun r11 =>
(cond (!r11)
(k (([] : List (Int × Int))) false)
(k e10_1 true)))))))))
theorem t_impl_ParseSum {β : Type} (N : Nat) (a0 : Int) (a1 : ByteArray) (k : List (Int × Int) → Bool → Option β) : impl_ParseSum N a0 a1 k = BV_impl_ParseSum N (impl_isBits N) (impl_ParseSum_l0 N) (impl_areValid N) a0 a1 k := by
  unfold impl_ParseSum BV_impl_ParseSum
  rfl
theorem ve19_0 {β : Type} (N : Nat) (q_impl_isBits : (a0 : Int) → (k : Bool → Option β) → Option β) (q_impl_ParseTerm : (a0 : Int) → (a1 : ByteArray) → (k : Int → Int → Bool → Option β) → Option β) (q_impl_areValid : (a0 : Int) → (a1 : List (Int × Int)) → (k : Bool → Option β) → Option β) (q_impl_ParseSum_l0 : Nat → Int → Int → Int → List (Int × Int) → List ByteArray → (Bool → List (Int × Int) → Option β) → (Int → List (Int × Int) → Option β) → Option β)  (a0 : Int) (a1 : ByteArray) (K : TV → Option β) : evFn lay (VE19 N q_impl_isBits q_impl_ParseTerm q_impl_areValid q_impl_ParseSum_l0) Tryd.f19 [.v (.one (.int .i64 a0)), .v (.one (.str a1))] K = BV_impl_ParseSum N q_impl_isBits q_impl_ParseSum_l0 q_impl_areValid a0 a1 (fun z2 z3 => K (.tup [.one (.sl 52 (.pairs z2)), .one (.bool z3)])) := by kernel_rfl
theorem e19_0 {β : Type} (N : Nat)  (a0 : Int) (a1 : ByteArray) (K : TV → Option β) : evFn lay (E19 N) Tryd.f19 [.v (.one (.int .i64 a0)), .v (.one (.str a1))] K = impl_ParseSum N a0 a1 (fun z2 z3 => K (.tup [.one (.sl 52 (.pairs z2)), .one (.bool z3)])) := (ve19_0 N (impl_isBits N) (impl_ParseTerm N) (impl_areValid N) (impl_ParseSum_l0 N) a0 a1 K).trans (t_impl_ParseSum N a0 a1 (fun z2 z3 => K (.tup [.one (.sl 52 (.pairs z2)), .one (.bool z3)]))).symm
theorem o19 {β : Type} (N : Nat) : SpecOK (β := β) inv Tryd.prog 19 (S19 N) := by
  refine spec_of lay_ok mixed (E := E19 N) (specs_loops (specs_cons (o46 N) (specs_cons (o47 N) (specs_cons (o48 N) (specs_cons (o49 N) specs_nil))))) muts_nil gs_nil Tryd.func19 (by kernel_rfl) 1 (by kernel_rfl) ⟨trivial, rk19_0 N⟩ fun args K r h => ?_
  unfold S19 VS19 at h
  split at h
  · exact (e19_0 N _ _ _).trans h
  · cases h
def VS50 {β : Type} (N : Nat) (q_laws_eqTerm : (a0 : Int) → (a1 : Int) → (a2 : Int) → (a3 : Int) → (k : Bool → Option β) → Option β) : Rv.Spec β := fun args K => match args with
  | [.v (.agg [.int .i64 a0, .int .i64 a1]), .v (.agg [.int .i64 a2, .int .i64 a3])] => q_laws_eqTerm a0 a1 a2 a3 (fun z4 => K (.v (.one (.bool z4))))
  | _ => none
def S50 {β : Type} (N : Nat) : Rv.Spec β := VS50 N (laws_eqTerm N)
def VE50 {β : Type} (N : Nat) : Env β := ⟨[], [], [], [], ⟨[], [], [], []⟩⟩
def E50 {β : Type} (N : Nat) : Env β := VE50 N
def BV_laws_eqTerm {β : Type} (N : Nat) (a0 : Int) (a1 : Int) (a2 : Int) (a3 : Int) (k : Bool → Option β) : Option β :=
(cond ((a0 != a2))
(k false)
((cond ((a1 != a3))
(k false)
(k true))))
theorem t_laws_eqTerm {β : Type} (N : Nat) (a0 : Int) (a1 : Int) (a2 : Int) (a3 : Int) (k : Bool → Option β) : laws_eqTerm N a0 a1 a2 a3 k = BV_laws_eqTerm N a0 a1 a2 a3 k := by
  unfold laws_eqTerm BV_laws_eqTerm
  rfl
theorem ve50_0 {β : Type} (N : Nat)  (a0 : Int) (a1 : Int) (a2 : Int) (a3 : Int) (K : TV → Option β) : evFn lay (VE50 N) Tryd.f50 [.v (.agg [.int .i64 a0, .int .i64 a1]), .v (.agg [.int .i64 a2, .int .i64 a3])] K = BV_laws_eqTerm N a0 a1 a2 a3 (fun z4 => K (.v (.one (.bool z4)))) := by kernel_rfl
theorem e50_0 {β : Type} (N : Nat)  (a0 : Int) (a1 : Int) (a2 : Int) (a3 : Int) (K : TV → Option β) : evFn lay (E50 N) Tryd.f50 [.v (.agg [.int .i64 a0, .int .i64 a1]), .v (.agg [.int .i64 a2, .int .i64 a3])] K = laws_eqTerm N a0 a1 a2 a3 (fun z4 => K (.v (.one (.bool z4)))) := (ve50_0 N a0 a1 a2 a3 K).trans (t_laws_eqTerm N a0 a1 a2 a3 (fun z4 => K (.v (.one (.bool z4))))).symm
theorem o50 {β : Type} (N : Nat) : SpecOK (β := β) inv Tryd.prog 50 (S50 N) := by
  refine spec_of lay_ok mixed (E := E50 N) (specs_loops specs_nil) muts_nil gs_nil Tryd.func50 (by kernel_rfl) 0 (by kernel_rfl) trivial fun args K r h => ?_
  unfold S50 VS50 at h
  split at h
  · exact (e50_0 N _ _ _ _ _).trans h
  · cases h
end Go.Proofs.YtfdggelojmofmaaDoor
