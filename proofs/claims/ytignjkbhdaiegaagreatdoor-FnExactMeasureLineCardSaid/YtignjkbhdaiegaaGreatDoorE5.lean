/- The functions that the claims reach answer as their texts do. -/
import Derived.Test.YtignjkbhdaiegaaGreatDoorE4
namespace Go.Proofs.YtignjkbhdaiegaaGreatDoor
open Go.Rv
set_option maxRecDepth 100000
set_option maxHeartbeats 2000000
set_option linter.unusedVariables false
def VS133 {β : Type} (N : Nat) (jq111 : (a0 : Int) → (a1 : Int) → (a2 : Int) → (k : Int → Option β) → Option β) : Rv.Spec β := fun args K => match args with
  | [.v (.agg [.int .i64 a0, .int .i64 a1]), .v (.one (.int .i64 a2))] => jq111 a0 a1 a2 (fun z3 => K (.v (.one (.int .i64 z3))))
  | _ => none
def S133 {β : Type} (N : Nat) : Rv.Spec β := VS133 N (j111 N)
def h133_0_0  (v0 : Int) (v1 : Int) (v2 : Int) (v3 : Int) (v4 : List Int) (v5 : List Int) : St := ⟨tund :: tund :: .v (.one (.ptr 0 0)) :: tund :: tund :: .v (.one (.row 1)) :: .v (.one (.row 2)) :: tund :: tund :: tund :: tund :: tund :: tund :: tund :: tund :: tund :: tund :: .v (.one (.int .i64 v0)) :: .v (.one (.int .i64 v1)) :: tund :: tund :: tund :: tund :: tund :: tund :: tund :: tund :: tund :: tund :: tund :: tund :: tund :: tund :: tund :: tund :: tund :: tund :: tund :: tund :: tund :: tund :: tund :: tund :: tund :: tund :: tund :: tund :: tund :: tund :: tund :: tund :: tund :: tund :: tund :: [], [.cells 25 [.int .i64 v2, .int .i64 v3], .row 3 (.ints .i64 v4), .row 3 (.ints .i64 v5)]⟩
def x133_0_0_k0  (y0 : Int) (y1 : Int) (y2 : List Int) : St := ⟨tund :: tund :: .v (.one (.ptr 0 0)) :: tund :: tund :: tund :: .v (.one (.row 1)) :: tund :: tund :: tund :: tund :: tund :: tund :: tund :: tund :: tund :: tund :: tund :: tund :: tund :: tund :: tund :: tund :: tund :: tund :: tund :: tund :: tund :: tund :: tund :: tund :: tund :: tund :: tund :: tund :: tund :: tund :: tund :: tund :: tund :: tund :: tund :: tund :: tund :: tund :: tund :: tund :: tund :: tund :: tund :: tund :: tund :: tund :: tund :: [], [.cells 25 [.int .i64 y0, .int .i64 y1], .row 3 (.ints .i64 y2)]⟩
def h133_1_0  (v0 : Int) (v1 : Int) (v2 : Int) (v3 : Int) (v4 : Int) (v5 : Int) (v6 : Int) (v7 : List Int) (v8 : List Int) : St := ⟨tund :: tund :: .v (.one (.ptr 0 0)) :: tund :: tund :: .v (.one (.row 1)) :: .v (.one (.row 2)) :: .v (.one (.int .i64 v0)) :: tund :: tund :: tund :: tund :: tund :: tund :: tund :: tund :: tund :: .v (.one (.int .i64 v1)) :: .v (.one (.int .i64 v2)) :: tund :: tund :: .v (.one (.row 1)) :: .v (.one (.int .i64 v3)) :: .v (.one (.int .i64 v4)) :: tund :: tund :: tund :: tund :: tund :: tund :: tund :: tund :: tund :: tund :: tund :: tund :: tund :: tund :: tund :: tund :: tund :: tund :: tund :: tund :: tund :: tund :: tund :: tund :: tund :: tund :: tund :: tund :: tund :: tund :: [], [.cells 25 [.int .i64 v5, .int .i64 v6], .row 3 (.ints .i64 v7), .row 3 (.ints .i64 v8)]⟩
def x133_1_0_k0  (y0 : Int) (y1 : Int) (y2 : Int) (y3 : Int) (y4 : List Int) (y5 : List Int) : St := ⟨tund :: tund :: .v (.one (.ptr 0 0)) :: tund :: tund :: .v (.one (.row 1)) :: .v (.one (.row 2)) :: tund :: tund :: tund :: tund :: tund :: tund :: tund :: tund :: tund :: tund :: .v (.one (.int .i64 y0)) :: .v (.one (.int .i64 y1)) :: tund :: tund :: tund :: tund :: tund :: tund :: tund :: tund :: tund :: tund :: tund :: tund :: tund :: tund :: tund :: tund :: tund :: tund :: tund :: tund :: tund :: tund :: tund :: tund :: tund :: tund :: tund :: tund :: tund :: tund :: tund :: tund :: tund :: tund :: tund :: [], [.cells 25 [.int .i64 y2, .int .i64 y3], .row 3 (.ints .i64 y4), .row 3 (.ints .i64 y5)]⟩
theorem fl133_0_0 (s : St) : refSt (h133_0_0 0 0 0 0 [] []) s = h133_0_0 (intS (oneA (vT (nx tund s.tmps 17)))) (intS (oneA (vT (nx tund s.tmps 18)))) (intS (nx .und (cellsB (nx .dead s.blks 0)) 0)) (intS (nx .und (cellsB (nx .dead s.blks 0)) 1)) (rInts (rowB_ (nx .dead s.blks 1))) (rInts (rowB_ (nx .dead s.blks 2))) := by kernel_rfl
def VLS133_0 {β : Type} (N : Nat) (jq110 : Nat → Int → Int → Int → Int → List Int → List Int → (Int → Int → List Int → Option β) → Option β) : LSpec β := fun s K => cond (shpSt (h133_0_0 0 0 0 0 [] []) s) ((fun (v0 : Int) (v1 : Int) (v2 : Int) (v3 : Int) (v4 : List Int) (v5 : List Int) => jq110  N v0 v1 v2 v3 v4 v5 (fun y0 y1 y2 => K (.exit 0) (x133_0_0_k0  y0 y1 y2))) (intS (oneA (vT (nx tund s.tmps 17)))) (intS (oneA (vT (nx tund s.tmps 18)))) (intS (nx .und (cellsB (nx .dead s.blks 0)) 0)) (intS (nx .und (cellsB (nx .dead s.blks 0)) 1)) (rInts (rowB_ (nx .dead s.blks 1))) (rInts (rowB_ (nx .dead s.blks 2)))) (none)
def LS133_0 {β : Type} (N : Nat) : LSpec β := VLS133_0 N (j110 N)
theorem fl133_1_0 (s : St) : refSt (h133_1_0 0 0 0 0 0 0 0 [] []) s = h133_1_0 (intS (oneA (vT (nx tund s.tmps 7)))) (intS (oneA (vT (nx tund s.tmps 17)))) (intS (oneA (vT (nx tund s.tmps 18)))) (intS (oneA (vT (nx tund s.tmps 22)))) (intS (oneA (vT (nx tund s.tmps 23)))) (intS (nx .und (cellsB (nx .dead s.blks 0)) 0)) (intS (nx .und (cellsB (nx .dead s.blks 0)) 1)) (rInts (rowB_ (nx .dead s.blks 1))) (rInts (rowB_ (nx .dead s.blks 2))) := by kernel_rfl
def VLS133_2 {β : Type} (N : Nat) (jq108 : Nat → Int → Int → Int → Int → Int → Int → Int → List Int → List Int → (Int → Int → Int → Int → List Int → List Int → Option β) → Option β) : LSpec β := fun s K => cond (shpSt (h133_1_0 0 0 0 0 0 0 0 [] []) s) ((fun (v0 : Int) (v1 : Int) (v2 : Int) (v3 : Int) (v4 : Int) (v5 : Int) (v6 : Int) (v7 : List Int) (v8 : List Int) => jq108  N v0 v1 v2 v3 v4 v5 v6 v7 v8 (fun y0 y1 y2 y3 y4 y5 => K (.exit 2) (x133_1_0_k0  y0 y1 y2 y3 y4 y5))) (intS (oneA (vT (nx tund s.tmps 7)))) (intS (oneA (vT (nx tund s.tmps 17)))) (intS (oneA (vT (nx tund s.tmps 18)))) (intS (oneA (vT (nx tund s.tmps 22)))) (intS (oneA (vT (nx tund s.tmps 23)))) (intS (nx .und (cellsB (nx .dead s.blks 0)) 0)) (intS (nx .und (cellsB (nx .dead s.blks 0)) 1)) (rInts (rowB_ (nx .dead s.blks 1))) (rInts (rowB_ (nx .dead s.blks 2)))) (none)
def LS133_2 {β : Type} (N : Nat) : LSpec β := VLS133_2 N (j108 N)
def VE133 {β : Type} (N : Nat) (jq106 : (a0 : Int) → (a1 : Int) → (a2 : Int) → (k : List Int → Option β) → Option β) (jq90 : (a0 : Int) → (a1 : Int) → (k : Int → Option β) → Option β) (jq110 : Nat → Int → Int → Int → Int → List Int → List Int → (Int → Int → List Int → Option β) → Option β) (jq108 : Nat → Int → Int → Int → Int → Int → Int → Int → List Int → List Int → (Int → Int → Int → Int → List Int → List Int → Option β) → Option β) : Env β := ⟨[(199, VS199 N jq106), (100, VS100 N jq90)], [], [(0, VLS133_0 N jq110), (2, VLS133_2 N jq108)], [], ⟨[], [], []⟩⟩
def E133 {β : Type} (N : Nat) : Env β := VE133 N (j106 N) (j90 N) (j110 N) (j108 N)
def jb109 {β : Type} (N : Nat) (jq108 : Nat → Int → Int → Int → Int → Int → Int → Int → List Int → List Int → (Int → Int → Int → Int → List Int → List Int → Option β) → Option β)  (v0 : Int) (v1 : Int) (v2 : Int) (v3 : Int) (v4 : List Int) (v5 : List Int) (rec_ : Int → Int → Int → Int → List Int → List Int → Option β) (k0 : Int → Int → List Int → Option β) : Option β :=
(cond ((decide (v1 < v0)))
(jq108  N v1 v0 v1 ((v4.length : Int)) 0 v2 v3 v4 v5 (fun e6_0 e6_1 e6_2 e6_3 e6_4 e6_5 =>
rec_ e6_0 ((w64 (e6_1 + 1))) e6_2 e6_3 e6_4 e6_5))
(k0 v2 v3 v5))
theorem jt109 {β : Type} (N : Nat)  (v0 : Int) (v1 : Int) (v2 : Int) (v3 : Int) (v4 : List Int) (v5 : List Int) (rec_ : Int → Int → Int → Int → List Int → List Int → Option β) (k0 : Int → Int → List Int → Option β) : j109 N v0 v1 v2 v3 v4 v5 rec_ k0 = jb109 N (j108 N) v0 v1 v2 v3 v4 v5 rec_ k0 := by
  unfold j109 jb109
  rfl
theorem vst133_0_0 {β : Type} (N : Nat) (jq106 : (a0 : Int) → (a1 : Int) → (a2 : Int) → (k : List Int → Option β) → Option β) (jq90 : (a0 : Int) → (a1 : Int) → (k : Int → Option β) → Option β) (jq110 : Nat → Int → Int → Int → Int → List Int → List Int → (Int → Int → List Int → Option β) → Option β) (jq108 : Nat → Int → Int → Int → Int → Int → Int → Int → List Int → List Int → (Int → Int → Int → Int → List Int → List Int → Option β) → Option β)  (v0 : Int) (v1 : Int) (v2 : Int) (v3 : Int) (v4 : List Int) (v5 : List Int) (rec_ : St → Option β) (K : Exit → St → Option β) :
    ev lay (VE133 N jq106 jq90 jq110 jq108) (retMask Tryz.f133) (lp Tryz.f133 0).body (lp Tryz.f133 0).ex ((lp Tryz.f133 0).lv (retMask Tryz.f133)) (h133_0_0  v0 v1 v2 v3 v4 v5) (nextR (fun s' => rec_ (s'.tidy ((lp Tryz.f133 0).lv (retMask Tryz.f133)))) K) = jb109 N jq108  v0 v1 v2 v3 v4 v5 (fun v0 v1 v2 v3 v4 v5 => rec_ (h133_0_0  v0 v1 v2 v3 v4 v5)) (fun y0 y1 y2 => K (.exit 0) (x133_0_0_k0  y0 y1 y2)) := by kernel_rfl
theorem st133_0_0 {β : Type} (N : Nat)  (v0 : Int) (v1 : Int) (v2 : Int) (v3 : Int) (v4 : List Int) (v5 : List Int) (rec_ : St → Option β) (K : Exit → St → Option β) :
    ev lay (E133 N) (retMask Tryz.f133) (lp Tryz.f133 0).body (lp Tryz.f133 0).ex ((lp Tryz.f133 0).lv (retMask Tryz.f133)) (h133_0_0  v0 v1 v2 v3 v4 v5) (nextR (fun s' => rec_ (s'.tidy ((lp Tryz.f133 0).lv (retMask Tryz.f133)))) K) = j109 N  v0 v1 v2 v3 v4 v5 (fun v0 v1 v2 v3 v4 v5 => rec_ (h133_0_0  v0 v1 v2 v3 v4 v5)) (fun y0 y1 y2 => K (.exit 0) (x133_0_0_k0  y0 y1 y2)) := (vst133_0_0 N (j106 N) (j90 N) (j110 N) (j108 N) v0 v1 v2 v3 v4 v5 rec_ K).trans (jt109 N  v0 v1 v2 v3 v4 v5 (fun v0 v1 v2 v3 v4 v5 => rec_ (h133_0_0  v0 v1 v2 v3 v4 v5)) (fun y0 y1 y2 => K (.exit 0) (x133_0_0_k0  y0 y1 y2))).symm
theorem ro133_0_0 {β : Type} (N : Nat)  (K : Exit → St → Option β) : ∀ (F : Nat) (v0 : Int) (v1 : Int) (v2 : Int) (v3 : Int) (v4 : List Int) (v5 : List Int), (lp Tryz.f133 0).rounds lay (E133 N) (retMask Tryz.f133) F (h133_0_0  v0 v1 v2 v3 v4 v5) K = j110 N  F v0 v1 v2 v3 v4 v5 (fun y0 y1 y2 => K (.exit 0) (x133_0_0_k0  y0 y1 y2)) := by
  intro F
  induction F with
  | zero => intros; rfl
  | succ F ih =>
    intros
    rw [rounds_next]
    refine (st133_0_0 N  _ _ _ _ _ _ (fun s => (lp Tryz.f133 0).rounds lay (E133 N) (retMask Tryz.f133) F s K) K).trans ?_
    simp only [ih]
    rfl
theorem lk133_0 {β : Type} (N : Nat) : lookL (E133 (β := β) N).loops (lp Tryz.f133 0).id = LS133_0 N := by kernel_rfl
theorem rk133_0 {β : Type} (N : Nat) : RoundsOK lay (E133 (β := β) N) (retMask Tryz.f133) (lp Tryz.f133 0) := by
  intro s K r h
  rw [lk133_0] at h
  unfold LS133_0 VLS133_0 at h
  cases hb : shpSt (h133_0_0 0 0 0 0 [] []) s with
  | true =>
    rw [hb, cond_true] at h
    exact ⟨N, by rw [← shpSt_ref hb, fl133_0_0 s]; exact (ro133_0_0 N  K N (intS (oneA (vT (nx tund s.tmps 17)))) (intS (oneA (vT (nx tund s.tmps 18)))) (intS (nx .und (cellsB (nx .dead s.blks 0)) 0)) (intS (nx .und (cellsB (nx .dead s.blks 0)) 1)) (rInts (rowB_ (nx .dead s.blks 1))) (rInts (rowB_ (nx .dead s.blks 2)))).trans h⟩
  | false =>
  rw [hb, cond_false] at h
  clear hb
  cases h
def jb107 {β : Type} (N : Nat)  (v0 : Int) (v1 : Int) (v2 : Int) (v3 : Int) (v4 : Int) (v5 : Int) (v6 : Int) (v7 : List Int) (v8 : List Int) (rec_ : Int → Int → Int → Int → Int → Int → Int → List Int → List Int → Option β) (k0 : Int → Int → Int → Int → List Int → List Int → Option β) : Option β :=
(cond ((decide (v4 < v3)))
((gd ((decide (0 ≤ v4)))
((gd ((decide (v4 < (v7.length : Int))))
((cond (((bits .andNot .i64 (rd 0 v7 v4) v0) == 0))
((gd ((decide (0 ≤ v0)))
((gd ((decide (v0 < (v8.length : Int))))
((gd ((decide (0 ≤ (bits .andNot .i64 v0 (rd 0 v7 v4)))))
((gd ((decide ((bits .andNot .i64 v0 (rd 0 v7 v4)) < (v8.length : Int))))
((gd ((decide (0 ≤ v0)))
((gd ((decide (v0 < (v8.length : Int))))
(rec_ v0 v1 v2 v3 ((w64 (v4 + 1))) v5 v6 v7 ((wr v8 v0 (mxI (rd 0 v8 v0) (w64 (1 + (rd 0 v8 (bits .andNot .i64 v0 (rd 0 v7 v4)))))))))))))))))))))
(rec_ v0 v1 v2 v3 ((w64 (v4 + 1))) v5 v6 v7 v8)))))))
(k0 v1 v2 v5 v6 v7 v8))
theorem jt107 {β : Type} (N : Nat)  (v0 : Int) (v1 : Int) (v2 : Int) (v3 : Int) (v4 : Int) (v5 : Int) (v6 : Int) (v7 : List Int) (v8 : List Int) (rec_ : Int → Int → Int → Int → Int → Int → Int → List Int → List Int → Option β) (k0 : Int → Int → Int → Int → List Int → List Int → Option β) : j107 N v0 v1 v2 v3 v4 v5 v6 v7 v8 rec_ k0 = jb107 N v0 v1 v2 v3 v4 v5 v6 v7 v8 rec_ k0 := by
  unfold j107 jb107
  rfl
theorem vst133_1_0 {β : Type} (N : Nat) (jq106 : (a0 : Int) → (a1 : Int) → (a2 : Int) → (k : List Int → Option β) → Option β) (jq90 : (a0 : Int) → (a1 : Int) → (k : Int → Option β) → Option β) (jq110 : Nat → Int → Int → Int → Int → List Int → List Int → (Int → Int → List Int → Option β) → Option β) (jq108 : Nat → Int → Int → Int → Int → Int → Int → Int → List Int → List Int → (Int → Int → Int → Int → List Int → List Int → Option β) → Option β)  (v0 : Int) (v1 : Int) (v2 : Int) (v3 : Int) (v4 : Int) (v5 : Int) (v6 : Int) (v7 : List Int) (v8 : List Int) (rec_ : St → Option β) (K : Exit → St → Option β) :
    ev lay (VE133 N jq106 jq90 jq110 jq108) (retMask Tryz.f133) (lp Tryz.f133 1).body (lp Tryz.f133 1).ex ((lp Tryz.f133 1).lv (retMask Tryz.f133)) (h133_1_0  v0 v1 v2 v3 v4 v5 v6 v7 v8) (nextR (fun s' => rec_ (s'.tidy ((lp Tryz.f133 1).lv (retMask Tryz.f133)))) K) = jb107 N  v0 v1 v2 v3 v4 v5 v6 v7 v8 (fun v0 v1 v2 v3 v4 v5 v6 v7 v8 => rec_ (h133_1_0  v0 v1 v2 v3 v4 v5 v6 v7 v8)) (fun y0 y1 y2 y3 y4 y5 => K (.exit 2) (x133_1_0_k0  y0 y1 y2 y3 y4 y5)) := by kernel_rfl
theorem st133_1_0 {β : Type} (N : Nat)  (v0 : Int) (v1 : Int) (v2 : Int) (v3 : Int) (v4 : Int) (v5 : Int) (v6 : Int) (v7 : List Int) (v8 : List Int) (rec_ : St → Option β) (K : Exit → St → Option β) :
    ev lay (E133 N) (retMask Tryz.f133) (lp Tryz.f133 1).body (lp Tryz.f133 1).ex ((lp Tryz.f133 1).lv (retMask Tryz.f133)) (h133_1_0  v0 v1 v2 v3 v4 v5 v6 v7 v8) (nextR (fun s' => rec_ (s'.tidy ((lp Tryz.f133 1).lv (retMask Tryz.f133)))) K) = j107 N  v0 v1 v2 v3 v4 v5 v6 v7 v8 (fun v0 v1 v2 v3 v4 v5 v6 v7 v8 => rec_ (h133_1_0  v0 v1 v2 v3 v4 v5 v6 v7 v8)) (fun y0 y1 y2 y3 y4 y5 => K (.exit 2) (x133_1_0_k0  y0 y1 y2 y3 y4 y5)) := (vst133_1_0 N (j106 N) (j90 N) (j110 N) (j108 N) v0 v1 v2 v3 v4 v5 v6 v7 v8 rec_ K).trans (jt107 N  v0 v1 v2 v3 v4 v5 v6 v7 v8 (fun v0 v1 v2 v3 v4 v5 v6 v7 v8 => rec_ (h133_1_0  v0 v1 v2 v3 v4 v5 v6 v7 v8)) (fun y0 y1 y2 y3 y4 y5 => K (.exit 2) (x133_1_0_k0  y0 y1 y2 y3 y4 y5))).symm
theorem ro133_1_0 {β : Type} (N : Nat)  (K : Exit → St → Option β) : ∀ (F : Nat) (v0 : Int) (v1 : Int) (v2 : Int) (v3 : Int) (v4 : Int) (v5 : Int) (v6 : Int) (v7 : List Int) (v8 : List Int), (lp Tryz.f133 1).rounds lay (E133 N) (retMask Tryz.f133) F (h133_1_0  v0 v1 v2 v3 v4 v5 v6 v7 v8) K = j108 N  F v0 v1 v2 v3 v4 v5 v6 v7 v8 (fun y0 y1 y2 y3 y4 y5 => K (.exit 2) (x133_1_0_k0  y0 y1 y2 y3 y4 y5)) := by
  intro F
  induction F with
  | zero => intros; rfl
  | succ F ih =>
    intros
    rw [rounds_next]
    refine (st133_1_0 N  _ _ _ _ _ _ _ _ _ (fun s => (lp Tryz.f133 1).rounds lay (E133 N) (retMask Tryz.f133) F s K) K).trans ?_
    simp only [ih]
    rfl
theorem lk133_2 {β : Type} (N : Nat) : lookL (E133 (β := β) N).loops (lp Tryz.f133 1).id = LS133_2 N := by kernel_rfl
theorem rk133_2 {β : Type} (N : Nat) : RoundsOK lay (E133 (β := β) N) (retMask Tryz.f133) (lp Tryz.f133 1) := by
  intro s K r h
  rw [lk133_2] at h
  unfold LS133_2 VLS133_2 at h
  cases hb : shpSt (h133_1_0 0 0 0 0 0 0 0 [] []) s with
  | true =>
    rw [hb, cond_true] at h
    exact ⟨N, by rw [← shpSt_ref hb, fl133_1_0 s]; exact (ro133_1_0 N  K N (intS (oneA (vT (nx tund s.tmps 7)))) (intS (oneA (vT (nx tund s.tmps 17)))) (intS (oneA (vT (nx tund s.tmps 18)))) (intS (oneA (vT (nx tund s.tmps 22)))) (intS (oneA (vT (nx tund s.tmps 23)))) (intS (nx .und (cellsB (nx .dead s.blks 0)) 0)) (intS (nx .und (cellsB (nx .dead s.blks 0)) 1)) (rInts (rowB_ (nx .dead s.blks 1))) (rInts (rowB_ (nx .dead s.blks 2)))).trans h⟩
  | false =>
  rw [hb, cond_false] at h
  clear hb
  cases h
def jb111 {β : Type} (N : Nat) (jq106 : (a0 : Int) → (a1 : Int) → (a2 : Int) → (k : List Int → Option β) → Option β) (jq90 : (a0 : Int) → (a1 : Int) → (k : Int → Option β) → Option β) (jq110 : Nat → Int → Int → Int → Int → List Int → List Int → (Int → Int → List Int → Option β) → Option β) (a0 : Int) (a1 : Int) (a2 : Int) (k : Int → Option β) : Option β :=
jq106 a0 a1 a2 fun r4 =>
jq90 a0 a1 fun r5 =>
(gd ((decide (0 ≤ r5)))
((gd ((decide (r5 ≤ r5)))
((gd ((decide (8 * r5 ≤ 281474976710656)))
(jq110  N ((((List.replicate (Int.toNat r5) (0 : Int))).length : Int)) 0 a0 a1 r4 ((List.replicate (Int.toNat r5) (0 : Int))) (fun e7_0 e7_1 e7_2 =>
jq90 e7_0 e7_1 fun r8 =>
(gd ((decide (0 ≤ (w64 (r8 - 1)))))
((gd ((decide ((w64 (r8 - 1)) < (e7_2.length : Int))))
(k ((rd 0 e7_2 (w64 (r8 - 1)))))))))))))))
theorem jt111 {β : Type} (N : Nat) (a0 : Int) (a1 : Int) (a2 : Int) (k : Int → Option β) : j111 N a0 a1 a2 k = jb111 N (j106 N) (j90 N) (j110 N) a0 a1 a2 k := by
  unfold j111 jb111
  rfl
theorem ve133_0 {β : Type} (N : Nat) (jq106 : (a0 : Int) → (a1 : Int) → (a2 : Int) → (k : List Int → Option β) → Option β) (jq90 : (a0 : Int) → (a1 : Int) → (k : Int → Option β) → Option β) (jq110 : Nat → Int → Int → Int → Int → List Int → List Int → (Int → Int → List Int → Option β) → Option β) (jq108 : Nat → Int → Int → Int → Int → Int → Int → Int → List Int → List Int → (Int → Int → Int → Int → List Int → List Int → Option β) → Option β)  (a0 : Int) (a1 : Int) (a2 : Int) (K : TV → Option β) : evFn lay (VE133 N jq106 jq90 jq110 jq108) Tryz.f133 [.v (.agg [.int .i64 a0, .int .i64 a1]), .v (.one (.int .i64 a2))] K = jb111 N jq106 jq90 jq110 a0 a1 a2 (fun z3 => K (.v (.one (.int .i64 z3)))) := by kernel_rfl
theorem e133_0 {β : Type} (N : Nat)  (a0 : Int) (a1 : Int) (a2 : Int) (K : TV → Option β) : evFn lay (E133 N) Tryz.f133 [.v (.agg [.int .i64 a0, .int .i64 a1]), .v (.one (.int .i64 a2))] K = j111 N a0 a1 a2 (fun z3 => K (.v (.one (.int .i64 z3)))) := (ve133_0 N (j106 N) (j90 N) (j110 N) (j108 N) a0 a1 a2 K).trans (jt111 N a0 a1 a2 (fun z3 => K (.v (.one (.int .i64 z3))))).symm
theorem o133 {β : Type} (N : Nat) : SpecOK (β := β) inv Tryz.prog 133 (S133 N) := by
  refine spec_of lay_ok mixed (E := E133 N) (specs_loops (specs_cons (o199 N) (specs_cons (o100 N) specs_nil))) muts_nil gs_nil Tryz.func133 (by kernel_rfl) 2 (by kernel_rfl) ⟨⟨trivial, rk133_0 N⟩, rk133_2 N⟩ fun args K r h => ?_
  unfold S133 VS133 at h
  split at h
  · exact (e133_0 N _ _ _ _).trans h
  · cases h
def VS77 {β : Type} (N : Nat) (jq114 : (a0 : Int) → (a1 : Int) → (k : Int → Option β) → Option β) : Rv.Spec β := fun args K => match args with
  | [.v (.agg [.int .i64 a0, .int .i64 a1])] => jq114 a0 a1 (fun z2 => K (.v (.one (.int .i64 z2))))
  | _ => none
def S77 {β : Type} (N : Nat) : Rv.Spec β := VS77 N (j114 N)
def h77_0_0  (v0 : Int) (v1 : Int) (v2 : Int) (v3 : Int) (v4 : Int) : St := ⟨tund :: .v (.one (.ptr 0 0)) :: tund :: .v (.one (.int .i64 v0)) :: tund :: tund :: tund :: tund :: tund :: .v (.one (.int .i64 v1)) :: .v (.one (.int .i64 v2)) :: tund :: tund :: tund :: tund :: tund :: tund :: tund :: tund :: tund :: [], [.cells 25 [.int .i64 v3, .int .i64 v4]]⟩
def x77_0_0_k0  (y0 : Int) : St := ⟨tund :: tund :: tund :: .v (.one (.int .i64 y0)) :: tund :: tund :: tund :: tund :: tund :: tund :: tund :: tund :: tund :: tund :: tund :: tund :: tund :: tund :: tund :: tund :: [], []⟩
theorem fl77_0_0 (s : St) : refSt (h77_0_0 0 0 0 0 0) s = h77_0_0 (intS (oneA (vT (nx tund s.tmps 3)))) (intS (oneA (vT (nx tund s.tmps 9)))) (intS (oneA (vT (nx tund s.tmps 10)))) (intS (nx .und (cellsB (nx .dead s.blks 0)) 0)) (intS (nx .und (cellsB (nx .dead s.blks 0)) 1)) := by kernel_rfl
def VLS77_0 {β : Type} (N : Nat) (jq113 : Nat → Int → Int → Int → Int → Int → (Int → Option β) → Option β) : LSpec β := fun s K => cond (shpSt (h77_0_0 0 0 0 0 0) s) ((fun (v0 : Int) (v1 : Int) (v2 : Int) (v3 : Int) (v4 : Int) => jq113  N v0 v1 v2 v3 v4 (fun y0 => K (.exit 0) (x77_0_0_k0  y0))) (intS (oneA (vT (nx tund s.tmps 3)))) (intS (oneA (vT (nx tund s.tmps 9)))) (intS (oneA (vT (nx tund s.tmps 10)))) (intS (nx .und (cellsB (nx .dead s.blks 0)) 0)) (intS (nx .und (cellsB (nx .dead s.blks 0)) 1))) (none)
def LS77_0 {β : Type} (N : Nat) : LSpec β := VLS77_0 N (j113 N)
def VE77 {β : Type} (N : Nat) (jq91 : (a0 : Int) → (a1 : Int) → (k : Bool → Option β) → Option β) (jq90 : (a0 : Int) → (a1 : Int) → (k : Int → Option β) → Option β) (jq111 : (a0 : Int) → (a1 : Int) → (a2 : Int) → (k : Int → Option β) → Option β) (jq113 : Nat → Int → Int → Int → Int → Int → (Int → Option β) → Option β) : Env β := ⟨[(45, VS45 N jq91), (100, VS100 N jq90), (133, VS133 N jq111)], [], [(0, VLS77_0 N jq113)], [], ⟨[], [], []⟩⟩
def E77 {β : Type} (N : Nat) : Env β := VE77 N (j91 N) (j90 N) (j111 N) (j113 N)
def jb112 {β : Type} (N : Nat) (jq111 : (a0 : Int) → (a1 : Int) → (a2 : Int) → (k : Int → Option β) → Option β)  (v0 : Int) (v1 : Int) (v2 : Int) (v3 : Int) (v4 : Int) (rec_ : Int → Int → Int → Int → Int → Option β) (k0 : Int → Option β) : Option β :=
(cond ((decide (v2 < v1)))
(jq111 v3 v4 v2 fun r5 =>
rec_ ((mxI v0 r5)) v1 ((w64 (v2 + 1))) v3 v4)
(k0 v0))
theorem jt112 {β : Type} (N : Nat)  (v0 : Int) (v1 : Int) (v2 : Int) (v3 : Int) (v4 : Int) (rec_ : Int → Int → Int → Int → Int → Option β) (k0 : Int → Option β) : j112 N v0 v1 v2 v3 v4 rec_ k0 = jb112 N (j111 N) v0 v1 v2 v3 v4 rec_ k0 := by
  unfold j112 jb112
  rfl
theorem vst77_0_0 {β : Type} (N : Nat) (jq91 : (a0 : Int) → (a1 : Int) → (k : Bool → Option β) → Option β) (jq90 : (a0 : Int) → (a1 : Int) → (k : Int → Option β) → Option β) (jq111 : (a0 : Int) → (a1 : Int) → (a2 : Int) → (k : Int → Option β) → Option β) (jq113 : Nat → Int → Int → Int → Int → Int → (Int → Option β) → Option β)  (v0 : Int) (v1 : Int) (v2 : Int) (v3 : Int) (v4 : Int) (rec_ : St → Option β) (K : Exit → St → Option β) :
    ev lay (VE77 N jq91 jq90 jq111 jq113) (retMask Tryz.f77) (lp Tryz.f77 0).body (lp Tryz.f77 0).ex ((lp Tryz.f77 0).lv (retMask Tryz.f77)) (h77_0_0  v0 v1 v2 v3 v4) (nextR (fun s' => rec_ (s'.tidy ((lp Tryz.f77 0).lv (retMask Tryz.f77)))) K) = jb112 N jq111  v0 v1 v2 v3 v4 (fun v0 v1 v2 v3 v4 => rec_ (h77_0_0  v0 v1 v2 v3 v4)) (fun y0 => K (.exit 0) (x77_0_0_k0  y0)) := by kernel_rfl
theorem st77_0_0 {β : Type} (N : Nat)  (v0 : Int) (v1 : Int) (v2 : Int) (v3 : Int) (v4 : Int) (rec_ : St → Option β) (K : Exit → St → Option β) :
    ev lay (E77 N) (retMask Tryz.f77) (lp Tryz.f77 0).body (lp Tryz.f77 0).ex ((lp Tryz.f77 0).lv (retMask Tryz.f77)) (h77_0_0  v0 v1 v2 v3 v4) (nextR (fun s' => rec_ (s'.tidy ((lp Tryz.f77 0).lv (retMask Tryz.f77)))) K) = j112 N  v0 v1 v2 v3 v4 (fun v0 v1 v2 v3 v4 => rec_ (h77_0_0  v0 v1 v2 v3 v4)) (fun y0 => K (.exit 0) (x77_0_0_k0  y0)) := (vst77_0_0 N (j91 N) (j90 N) (j111 N) (j113 N) v0 v1 v2 v3 v4 rec_ K).trans (jt112 N  v0 v1 v2 v3 v4 (fun v0 v1 v2 v3 v4 => rec_ (h77_0_0  v0 v1 v2 v3 v4)) (fun y0 => K (.exit 0) (x77_0_0_k0  y0))).symm
theorem ro77_0_0 {β : Type} (N : Nat)  (K : Exit → St → Option β) : ∀ (F : Nat) (v0 : Int) (v1 : Int) (v2 : Int) (v3 : Int) (v4 : Int), (lp Tryz.f77 0).rounds lay (E77 N) (retMask Tryz.f77) F (h77_0_0  v0 v1 v2 v3 v4) K = j113 N  F v0 v1 v2 v3 v4 (fun y0 => K (.exit 0) (x77_0_0_k0  y0)) := by
  intro F
  induction F with
  | zero => intros; rfl
  | succ F ih =>
    intros
    rw [rounds_next]
    refine (st77_0_0 N  _ _ _ _ _ (fun s => (lp Tryz.f77 0).rounds lay (E77 N) (retMask Tryz.f77) F s K) K).trans ?_
    simp only [ih]
    rfl
theorem lk77_0 {β : Type} (N : Nat) : lookL (E77 (β := β) N).loops (lp Tryz.f77 0).id = LS77_0 N := by kernel_rfl
theorem rk77_0 {β : Type} (N : Nat) : RoundsOK lay (E77 (β := β) N) (retMask Tryz.f77) (lp Tryz.f77 0) := by
  intro s K r h
  rw [lk77_0] at h
  unfold LS77_0 VLS77_0 at h
  cases hb : shpSt (h77_0_0 0 0 0 0 0) s with
  | true =>
    rw [hb, cond_true] at h
    exact ⟨N, by rw [← shpSt_ref hb, fl77_0_0 s]; exact (ro77_0_0 N  K N (intS (oneA (vT (nx tund s.tmps 3)))) (intS (oneA (vT (nx tund s.tmps 9)))) (intS (oneA (vT (nx tund s.tmps 10)))) (intS (nx .und (cellsB (nx .dead s.blks 0)) 0)) (intS (nx .und (cellsB (nx .dead s.blks 0)) 1))).trans h⟩
  | false =>
  rw [hb, cond_false] at h
  clear hb
  cases h
def jb114 {β : Type} (N : Nat) (jq91 : (a0 : Int) → (a1 : Int) → (k : Bool → Option β) → Option β) (jq90 : (a0 : Int) → (a1 : Int) → (k : Int → Option β) → Option β) (jq113 : Nat → Int → Int → Int → Int → Int → (Int → Option β) → Option β) (a0 : Int) (a1 : Int) (k : Int → Option β) : Option β :=
jq91 a0 a1 fun r3 =>
(cond (!r3)
(k (-1))
(jq90 a0 a1 fun r4 =>
jq113  N 0 r4 0 a0 a1 (fun e6_0 =>
k e6_0)))
theorem jt114 {β : Type} (N : Nat) (a0 : Int) (a1 : Int) (k : Int → Option β) : j114 N a0 a1 k = jb114 N (j91 N) (j90 N) (j113 N) a0 a1 k := by
  unfold j114 jb114
  rfl
theorem ve77_0 {β : Type} (N : Nat) (jq91 : (a0 : Int) → (a1 : Int) → (k : Bool → Option β) → Option β) (jq90 : (a0 : Int) → (a1 : Int) → (k : Int → Option β) → Option β) (jq111 : (a0 : Int) → (a1 : Int) → (a2 : Int) → (k : Int → Option β) → Option β) (jq113 : Nat → Int → Int → Int → Int → Int → (Int → Option β) → Option β)  (a0 : Int) (a1 : Int) (K : TV → Option β) : evFn lay (VE77 N jq91 jq90 jq111 jq113) Tryz.f77 [.v (.agg [.int .i64 a0, .int .i64 a1])] K = jb114 N jq91 jq90 jq113 a0 a1 (fun z2 => K (.v (.one (.int .i64 z2)))) := by kernel_rfl
theorem e77_0 {β : Type} (N : Nat)  (a0 : Int) (a1 : Int) (K : TV → Option β) : evFn lay (E77 N) Tryz.f77 [.v (.agg [.int .i64 a0, .int .i64 a1])] K = j114 N a0 a1 (fun z2 => K (.v (.one (.int .i64 z2)))) := (ve77_0 N (j91 N) (j90 N) (j111 N) (j113 N) a0 a1 K).trans (jt114 N a0 a1 (fun z2 => K (.v (.one (.int .i64 z2))))).symm
theorem o77 {β : Type} (N : Nat) : SpecOK (β := β) inv Tryz.prog 77 (S77 N) := by
  refine spec_of lay_ok mixed (E := E77 N) (specs_loops (specs_cons (o45 N) (specs_cons (o100 N) (specs_cons (o133 N) specs_nil)))) muts_nil gs_nil Tryz.func77 (by kernel_rfl) 1 (by kernel_rfl) ⟨trivial, rk77_0 N⟩ fun args K r h => ?_
  unfold S77 VS77 at h
  split at h
  · exact (e77_0 N _ _ _).trans h
  · cases h
def VS134 {β : Type} (N : Nat) (jq115 : (a0 : Int) → (k : Bool → Option β) → Option β) : Rv.Spec β := fun args K => match args with
  | [.v (.one (.int .i64 a0))] => jq115 a0 (fun z1 => K (.v (.one (.bool z1))))
  | _ => none
def S134 {β : Type} (N : Nat) : Rv.Spec β := VS134 N (j115 N)
def VE134 {β : Type} (N : Nat) : Env β := ⟨[], [], [], [], ⟨[], [], []⟩⟩
def E134 {β : Type} (N : Nat) : Env β := VE134 N
def jb115 {β : Type} (N : Nat) (a0 : Int) (k : Bool → Option β) : Option β :=
(cond ((a0 == 0))
(k true)
(k ((a0 == 1))))
theorem jt115 {β : Type} (N : Nat) (a0 : Int) (k : Bool → Option β) : j115 N a0 k = jb115 N a0 k := by
  unfold j115 jb115
  rfl
theorem ve134_0 {β : Type} (N : Nat)  (a0 : Int) (K : TV → Option β) : evFn lay (VE134 N) Tryz.f134 [.v (.one (.int .i64 a0))] K = jb115 N a0 (fun z1 => K (.v (.one (.bool z1)))) := by kernel_rfl
theorem e134_0 {β : Type} (N : Nat)  (a0 : Int) (K : TV → Option β) : evFn lay (E134 N) Tryz.f134 [.v (.one (.int .i64 a0))] K = j115 N a0 (fun z1 => K (.v (.one (.bool z1)))) := (ve134_0 N a0 K).trans (jt115 N a0 (fun z1 => K (.v (.one (.bool z1))))).symm
theorem o134 {β : Type} (N : Nat) : SpecOK (β := β) inv Tryz.prog 134 (S134 N) := by
  refine spec_of lay_ok mixed (E := E134 N) (specs_loops specs_nil) muts_nil gs_nil Tryz.func134 (by kernel_rfl) 0 (by kernel_rfl) trivial fun args K r h => ?_
  unfold S134 VS134 at h
  split at h
  · exact (e134_0 N _ _).trans h
  · cases h
def VS159 {β : Type} (N : Nat) (jq116 : (a0 : Int) → (k : Int → Option β) → Option β) : Rv.Spec β := fun args K => match args with
  | [.v (.one (.int .u64 a0))] => jq116 a0 (fun z1 => K (.v (.one (.int .i64 z1))))
  | _ => none
def S159 {β : Type} (N : Nat) : Rv.Spec β := VS159 N (j116 N)
def VE159 {β : Type} (N : Nat) : Env β := ⟨[], [], [], [], ⟨[], [], []⟩⟩
def E159 {β : Type} (N : Nat) : Env β := VE159 N
def jb116 {β : Type} (N : Nat) (a0 : Int) (k : Int → Option β) : Option β :=
k ((bits .and .i64 (w64 ((wu64 ((wu64 ((wu64 ((bits .and .u64 (wu64 ((shrI .u64 (wu64 ((bits .and .u64 (shrI .u64 (wu64 ((bits .and .u64 (shrI .u64 a0 1) 6148914691236517205) + (bits .and .u64 a0 6148914691236517205))) 2) 3689348814741910323) + (bits .and .u64 (wu64 ((bits .and .u64 (shrI .u64 a0 1) 6148914691236517205) + (bits .and .u64 a0 6148914691236517205))) 3689348814741910323))) 4) + (wu64 ((bits .and .u64 (shrI .u64 (wu64 ((bits .and .u64 (shrI .u64 a0 1) 6148914691236517205) + (bits .and .u64 a0 6148914691236517205))) 2) 3689348814741910323) + (bits .and .u64 (wu64 ((bits .and .u64 (shrI .u64 a0 1) 6148914691236517205) + (bits .and .u64 a0 6148914691236517205))) 3689348814741910323))))) 1085102592571150095) + (shrI .u64 (bits .and .u64 (wu64 ((shrI .u64 (wu64 ((bits .and .u64 (shrI .u64 (wu64 ((bits .and .u64 (shrI .u64 a0 1) 6148914691236517205) + (bits .and .u64 a0 6148914691236517205))) 2) 3689348814741910323) + (bits .and .u64 (wu64 ((bits .and .u64 (shrI .u64 a0 1) 6148914691236517205) + (bits .and .u64 a0 6148914691236517205))) 3689348814741910323))) 4) + (wu64 ((bits .and .u64 (shrI .u64 (wu64 ((bits .and .u64 (shrI .u64 a0 1) 6148914691236517205) + (bits .and .u64 a0 6148914691236517205))) 2) 3689348814741910323) + (bits .and .u64 (wu64 ((bits .and .u64 (shrI .u64 a0 1) 6148914691236517205) + (bits .and .u64 a0 6148914691236517205))) 3689348814741910323))))) 1085102592571150095) 8))) + (shrI .u64 (wu64 ((bits .and .u64 (wu64 ((shrI .u64 (wu64 ((bits .and .u64 (shrI .u64 (wu64 ((bits .and .u64 (shrI .u64 a0 1) 6148914691236517205) + (bits .and .u64 a0 6148914691236517205))) 2) 3689348814741910323) + (bits .and .u64 (wu64 ((bits .and .u64 (shrI .u64 a0 1) 6148914691236517205) + (bits .and .u64 a0 6148914691236517205))) 3689348814741910323))) 4) + (wu64 ((bits .and .u64 (shrI .u64 (wu64 ((bits .and .u64 (shrI .u64 a0 1) 6148914691236517205) + (bits .and .u64 a0 6148914691236517205))) 2) 3689348814741910323) + (bits .and .u64 (wu64 ((bits .and .u64 (shrI .u64 a0 1) 6148914691236517205) + (bits .and .u64 a0 6148914691236517205))) 3689348814741910323))))) 1085102592571150095) + (shrI .u64 (bits .and .u64 (wu64 ((shrI .u64 (wu64 ((bits .and .u64 (shrI .u64 (wu64 ((bits .and .u64 (shrI .u64 a0 1) 6148914691236517205) + (bits .and .u64 a0 6148914691236517205))) 2) 3689348814741910323) + (bits .and .u64 (wu64 ((bits .and .u64 (shrI .u64 a0 1) 6148914691236517205) + (bits .and .u64 a0 6148914691236517205))) 3689348814741910323))) 4) + (wu64 ((bits .and .u64 (shrI .u64 (wu64 ((bits .and .u64 (shrI .u64 a0 1) 6148914691236517205) + (bits .and .u64 a0 6148914691236517205))) 2) 3689348814741910323) + (bits .and .u64 (wu64 ((bits .and .u64 (shrI .u64 a0 1) 6148914691236517205) + (bits .and .u64 a0 6148914691236517205))) 3689348814741910323))))) 1085102592571150095) 8))) 16))) + (shrI .u64 (wu64 ((wu64 ((bits .and .u64 (wu64 ((shrI .u64 (wu64 ((bits .and .u64 (shrI .u64 (wu64 ((bits .and .u64 (shrI .u64 a0 1) 6148914691236517205) + (bits .and .u64 a0 6148914691236517205))) 2) 3689348814741910323) + (bits .and .u64 (wu64 ((bits .and .u64 (shrI .u64 a0 1) 6148914691236517205) + (bits .and .u64 a0 6148914691236517205))) 3689348814741910323))) 4) + (wu64 ((bits .and .u64 (shrI .u64 (wu64 ((bits .and .u64 (shrI .u64 a0 1) 6148914691236517205) + (bits .and .u64 a0 6148914691236517205))) 2) 3689348814741910323) + (bits .and .u64 (wu64 ((bits .and .u64 (shrI .u64 a0 1) 6148914691236517205) + (bits .and .u64 a0 6148914691236517205))) 3689348814741910323))))) 1085102592571150095) + (shrI .u64 (bits .and .u64 (wu64 ((shrI .u64 (wu64 ((bits .and .u64 (shrI .u64 (wu64 ((bits .and .u64 (shrI .u64 a0 1) 6148914691236517205) + (bits .and .u64 a0 6148914691236517205))) 2) 3689348814741910323) + (bits .and .u64 (wu64 ((bits .and .u64 (shrI .u64 a0 1) 6148914691236517205) + (bits .and .u64 a0 6148914691236517205))) 3689348814741910323))) 4) + (wu64 ((bits .and .u64 (shrI .u64 (wu64 ((bits .and .u64 (shrI .u64 a0 1) 6148914691236517205) + (bits .and .u64 a0 6148914691236517205))) 2) 3689348814741910323) + (bits .and .u64 (wu64 ((bits .and .u64 (shrI .u64 a0 1) 6148914691236517205) + (bits .and .u64 a0 6148914691236517205))) 3689348814741910323))))) 1085102592571150095) 8))) + (shrI .u64 (wu64 ((bits .and .u64 (wu64 ((shrI .u64 (wu64 ((bits .and .u64 (shrI .u64 (wu64 ((bits .and .u64 (shrI .u64 a0 1) 6148914691236517205) + (bits .and .u64 a0 6148914691236517205))) 2) 3689348814741910323) + (bits .and .u64 (wu64 ((bits .and .u64 (shrI .u64 a0 1) 6148914691236517205) + (bits .and .u64 a0 6148914691236517205))) 3689348814741910323))) 4) + (wu64 ((bits .and .u64 (shrI .u64 (wu64 ((bits .and .u64 (shrI .u64 a0 1) 6148914691236517205) + (bits .and .u64 a0 6148914691236517205))) 2) 3689348814741910323) + (bits .and .u64 (wu64 ((bits .and .u64 (shrI .u64 a0 1) 6148914691236517205) + (bits .and .u64 a0 6148914691236517205))) 3689348814741910323))))) 1085102592571150095) + (shrI .u64 (bits .and .u64 (wu64 ((shrI .u64 (wu64 ((bits .and .u64 (shrI .u64 (wu64 ((bits .and .u64 (shrI .u64 a0 1) 6148914691236517205) + (bits .and .u64 a0 6148914691236517205))) 2) 3689348814741910323) + (bits .and .u64 (wu64 ((bits .and .u64 (shrI .u64 a0 1) 6148914691236517205) + (bits .and .u64 a0 6148914691236517205))) 3689348814741910323))) 4) + (wu64 ((bits .and .u64 (shrI .u64 (wu64 ((bits .and .u64 (shrI .u64 a0 1) 6148914691236517205) + (bits .and .u64 a0 6148914691236517205))) 2) 3689348814741910323) + (bits .and .u64 (wu64 ((bits .and .u64 (shrI .u64 a0 1) 6148914691236517205) + (bits .and .u64 a0 6148914691236517205))) 3689348814741910323))))) 1085102592571150095) 8))) 16))) 32))))) 127))
theorem jt116 {β : Type} (N : Nat) (a0 : Int) (k : Int → Option β) : j116 N a0 k = jb116 N a0 k := by
  unfold j116 jb116
  rfl
theorem ve159_0 {β : Type} (N : Nat)  (a0 : Int) (K : TV → Option β) : evFn lay (VE159 N) Tryz.f159 [.v (.one (.int .u64 a0))] K = jb116 N a0 (fun z1 => K (.v (.one (.int .i64 z1)))) := by kernel_rfl
theorem e159_0 {β : Type} (N : Nat)  (a0 : Int) (K : TV → Option β) : evFn lay (E159 N) Tryz.f159 [.v (.one (.int .u64 a0))] K = j116 N a0 (fun z1 => K (.v (.one (.int .i64 z1)))) := (ve159_0 N a0 K).trans (jt116 N a0 (fun z1 => K (.v (.one (.int .i64 z1))))).symm
theorem o159 {β : Type} (N : Nat) : SpecOK (β := β) inv Tryz.prog 159 (S159 N) := by
  refine spec_of lay_ok mixed (E := E159 N) (specs_loops specs_nil) muts_nil gs_nil Tryz.func159 (by kernel_rfl) 0 (by kernel_rfl) trivial fun args K r h => ?_
  unfold S159 VS159 at h
  split at h
  · exact (e159_0 N _ _).trans h
  · cases h
def VS104 {β : Type} (N : Nat) (jq117 : (a0 : Int) → (k : Int → Option β) → Option β) : Rv.Spec β := fun args K => match args with
  | [.v (.one (.int .i64 a0))] => jq117 a0 (fun z1 => K (.v (.one (.int .i64 z1))))
  | _ => none
def S104 {β : Type} (N : Nat) : Rv.Spec β := VS104 N (j117 N)
def VE104 {β : Type} (N : Nat) (jq116 : (a0 : Int) → (k : Int → Option β) → Option β) : Env β := ⟨[(159, VS159 N jq116)], [], [], [], ⟨[], [], []⟩⟩
def E104 {β : Type} (N : Nat) : Env β := VE104 N (j116 N)
def jb117 {β : Type} (N : Nat) (jq116 : (a0 : Int) → (k : Int → Option β) → Option β) (a0 : Int) (k : Int → Option β) : Option β :=
jq116 ((wu64 (a0))) fun r2 =>
k r2
theorem jt117 {β : Type} (N : Nat) (a0 : Int) (k : Int → Option β) : j117 N a0 k = jb117 N (j116 N) a0 k := by
  unfold j117 jb117
  rfl
theorem ve104_0 {β : Type} (N : Nat) (jq116 : (a0 : Int) → (k : Int → Option β) → Option β)  (a0 : Int) (K : TV → Option β) : evFn lay (VE104 N jq116) Tryz.f104 [.v (.one (.int .i64 a0))] K = jb117 N jq116 a0 (fun z1 => K (.v (.one (.int .i64 z1)))) := by kernel_rfl
theorem e104_0 {β : Type} (N : Nat)  (a0 : Int) (K : TV → Option β) : evFn lay (E104 N) Tryz.f104 [.v (.one (.int .i64 a0))] K = j117 N a0 (fun z1 => K (.v (.one (.int .i64 z1)))) := (ve104_0 N (j116 N) a0 K).trans (jt117 N a0 (fun z1 => K (.v (.one (.int .i64 z1))))).symm
theorem o104 {β : Type} (N : Nat) : SpecOK (β := β) inv Tryz.prog 104 (S104 N) := by
  refine spec_of lay_ok mixed (E := E104 N) (specs_loops (specs_cons (o159 N) specs_nil)) muts_nil gs_nil Tryz.func104 (by kernel_rfl) 0 (by kernel_rfl) trivial fun args K r h => ?_
  unfold S104 VS104 at h
  split at h
  · exact (e104_0 N _ _).trans h
  · cases h
def VS143 {β : Type} (N : Nat) (jq120 : (a0 : Int) → (a1 : Int) → (a2 : Int) → (a3 : Int) → (k : Int → Option β) → Option β) : Rv.Spec β := fun args K => match args with
  | [.v (.agg [.int .i64 a0, .int .i64 a1]), .v (.one (.int .i64 a2)), .v (.one (.int .i64 a3))] => jq120 a0 a1 a2 a3 (fun z4 => K (.v (.one (.int .i64 z4))))
  | _ => none
def S143 {β : Type} (N : Nat) : Rv.Spec β := VS143 N (j120 N)
def h143_0_0  (v0 : Int) (v1 : Int) (v2 : Int) (v3 : Int) (v4 : Int) (v5 : Int) (v6 : Bool) (v7 : Bool) : St := ⟨tund :: .v (.one (.int .i64 v0)) :: .v (.one (.int .i64 v1)) :: .v (.one (.ptr 0 0)) :: tund :: tund :: tund :: .v (.one (.ptr 1 0)) :: tund :: tund :: tund :: .v (.one (.int .i64 v2)) :: .v (.one (.int .i64 v3)) :: tund :: tund :: tund :: tund :: tund :: tund :: tund :: tund :: tund :: tund :: tund :: tund :: tund :: tund :: tund :: tund :: tund :: tund :: tund :: tund :: tund :: tund :: [], [.cells 25 [.int .i64 v4, .int .i64 v5], .cells 136 [.bool v6, .bool v7]]⟩
def x143_0_0_k0  (y0 : Bool) (y1 : Bool) : St := ⟨tund :: tund :: tund :: tund :: tund :: tund :: tund :: .v (.one (.ptr 0 0)) :: tund :: tund :: tund :: tund :: tund :: tund :: tund :: tund :: tund :: tund :: tund :: tund :: tund :: tund :: tund :: tund :: tund :: tund :: tund :: tund :: tund :: tund :: tund :: tund :: tund :: tund :: tund :: [], [.cells 136 [.bool y0, .bool y1]]⟩
theorem fl143_0_0 (s : St) : refSt (h143_0_0 0 0 0 0 0 0 false false) s = h143_0_0 (intS (oneA (vT (nx tund s.tmps 1)))) (intS (oneA (vT (nx tund s.tmps 2)))) (intS (oneA (vT (nx tund s.tmps 11)))) (intS (oneA (vT (nx tund s.tmps 12)))) (intS (nx .und (cellsB (nx .dead s.blks 0)) 0)) (intS (nx .und (cellsB (nx .dead s.blks 0)) 1)) (boolS (nx .und (cellsB (nx .dead s.blks 1)) 0)) (boolS (nx .und (cellsB (nx .dead s.blks 1)) 1)) := by kernel_rfl
def VLS143_0 {β : Type} (N : Nat) (jq119 : Nat → Int → Int → Int → Int → Int → Int → Bool → Bool → (Bool → Bool → Option β) → Option β) : LSpec β := fun s K => cond (shpSt (h143_0_0 0 0 0 0 0 0 false false) s) ((fun (v0 : Int) (v1 : Int) (v2 : Int) (v3 : Int) (v4 : Int) (v5 : Int) (v6 : Bool) (v7 : Bool) => jq119  N v0 v1 v2 v3 v4 v5 v6 v7 (fun y0 y1 => K (.exit 0) (x143_0_0_k0  y0 y1))) (intS (oneA (vT (nx tund s.tmps 1)))) (intS (oneA (vT (nx tund s.tmps 2)))) (intS (oneA (vT (nx tund s.tmps 11)))) (intS (oneA (vT (nx tund s.tmps 12)))) (intS (nx .und (cellsB (nx .dead s.blks 0)) 0)) (intS (nx .und (cellsB (nx .dead s.blks 0)) 1)) (boolS (nx .und (cellsB (nx .dead s.blks 1)) 0)) (boolS (nx .und (cellsB (nx .dead s.blks 1)) 1))) (none)
def LS143_0 {β : Type} (N : Nat) : LSpec β := VLS143_0 N (j119 N)
def VE143 {β : Type} (N : Nat) (jq90 : (a0 : Int) → (a1 : Int) → (k : Int → Option β) → Option β) (jq94 : (a0 : Int) → (a1 : Int) → (a2 : Int) → (k : Int → Option β) → Option β) (jq119 : Nat → Int → Int → Int → Int → Int → Int → Bool → Bool → (Bool → Bool → Option β) → Option β) : Env β := ⟨[(100, VS100 N jq90), (103, VS103 N jq94)], [], [(0, VLS143_0 N jq119)], [], ⟨[], [], []⟩⟩
def E143 {β : Type} (N : Nat) : Env β := VE143 N (j90 N) (j94 N) (j119 N)
def jb118 {β : Type} (N : Nat) (jq94 : (a0 : Int) → (a1 : Int) → (a2 : Int) → (k : Int → Option β) → Option β)  (v0 : Int) (v1 : Int) (v2 : Int) (v3 : Int) (v4 : Int) (v5 : Int) (v6 : Bool) (v7 : Bool) (rec_ : Int → Int → Int → Int → Int → Int → Bool → Bool → Option β) (k0 : Bool → Bool → Option β) : Option β :=
(cond ((decide (v3 < v2)))
((cond (((bits .and .i64 v3 v0) == v1))
(jq94 v4 v5 v3 fun r6 =>
(gd ((decide (0 ≤ r6)))
((gd ((decide (r6 < 2)))
((cond ((r6 == 0))
(rec_ v0 v1 v2 ((w64 (v3 + 1))) v4 v5 true v7)
(rec_ v0 v1 v2 ((w64 (v3 + 1))) v4 v5 v6 true)))))))
(rec_ v0 v1 v2 ((w64 (v3 + 1))) v4 v5 v6 v7)))
(k0 v6 v7))
theorem jt118 {β : Type} (N : Nat)  (v0 : Int) (v1 : Int) (v2 : Int) (v3 : Int) (v4 : Int) (v5 : Int) (v6 : Bool) (v7 : Bool) (rec_ : Int → Int → Int → Int → Int → Int → Bool → Bool → Option β) (k0 : Bool → Bool → Option β) : j118 N v0 v1 v2 v3 v4 v5 v6 v7 rec_ k0 = jb118 N (j94 N) v0 v1 v2 v3 v4 v5 v6 v7 rec_ k0 := by
  unfold j118 jb118
  rfl
theorem vst143_0_0 {β : Type} (N : Nat) (jq90 : (a0 : Int) → (a1 : Int) → (k : Int → Option β) → Option β) (jq94 : (a0 : Int) → (a1 : Int) → (a2 : Int) → (k : Int → Option β) → Option β) (jq119 : Nat → Int → Int → Int → Int → Int → Int → Bool → Bool → (Bool → Bool → Option β) → Option β)  (v0 : Int) (v1 : Int) (v2 : Int) (v3 : Int) (v4 : Int) (v5 : Int) (v6 : Bool) (v7 : Bool) (rec_ : St → Option β) (K : Exit → St → Option β) :
    ev lay (VE143 N jq90 jq94 jq119) (retMask Tryz.f143) (lp Tryz.f143 0).body (lp Tryz.f143 0).ex ((lp Tryz.f143 0).lv (retMask Tryz.f143)) (h143_0_0  v0 v1 v2 v3 v4 v5 v6 v7) (nextR (fun s' => rec_ (s'.tidy ((lp Tryz.f143 0).lv (retMask Tryz.f143)))) K) = jb118 N jq94  v0 v1 v2 v3 v4 v5 v6 v7 (fun v0 v1 v2 v3 v4 v5 v6 v7 => rec_ (h143_0_0  v0 v1 v2 v3 v4 v5 v6 v7)) (fun y0 y1 => K (.exit 0) (x143_0_0_k0  y0 y1)) := by kernel_rfl
theorem st143_0_0 {β : Type} (N : Nat)  (v0 : Int) (v1 : Int) (v2 : Int) (v3 : Int) (v4 : Int) (v5 : Int) (v6 : Bool) (v7 : Bool) (rec_ : St → Option β) (K : Exit → St → Option β) :
    ev lay (E143 N) (retMask Tryz.f143) (lp Tryz.f143 0).body (lp Tryz.f143 0).ex ((lp Tryz.f143 0).lv (retMask Tryz.f143)) (h143_0_0  v0 v1 v2 v3 v4 v5 v6 v7) (nextR (fun s' => rec_ (s'.tidy ((lp Tryz.f143 0).lv (retMask Tryz.f143)))) K) = j118 N  v0 v1 v2 v3 v4 v5 v6 v7 (fun v0 v1 v2 v3 v4 v5 v6 v7 => rec_ (h143_0_0  v0 v1 v2 v3 v4 v5 v6 v7)) (fun y0 y1 => K (.exit 0) (x143_0_0_k0  y0 y1)) := (vst143_0_0 N (j90 N) (j94 N) (j119 N) v0 v1 v2 v3 v4 v5 v6 v7 rec_ K).trans (jt118 N  v0 v1 v2 v3 v4 v5 v6 v7 (fun v0 v1 v2 v3 v4 v5 v6 v7 => rec_ (h143_0_0  v0 v1 v2 v3 v4 v5 v6 v7)) (fun y0 y1 => K (.exit 0) (x143_0_0_k0  y0 y1))).symm
theorem ro143_0_0 {β : Type} (N : Nat)  (K : Exit → St → Option β) : ∀ (F : Nat) (v0 : Int) (v1 : Int) (v2 : Int) (v3 : Int) (v4 : Int) (v5 : Int) (v6 : Bool) (v7 : Bool), (lp Tryz.f143 0).rounds lay (E143 N) (retMask Tryz.f143) F (h143_0_0  v0 v1 v2 v3 v4 v5 v6 v7) K = j119 N  F v0 v1 v2 v3 v4 v5 v6 v7 (fun y0 y1 => K (.exit 0) (x143_0_0_k0  y0 y1)) := by
  intro F
  induction F with
  | zero => intros; rfl
  | succ F ih =>
    intros
    rw [rounds_next]
    refine (st143_0_0 N  _ _ _ _ _ _ _ _ (fun s => (lp Tryz.f143 0).rounds lay (E143 N) (retMask Tryz.f143) F s K) K).trans ?_
    simp only [ih]
    rfl
theorem lk143_0 {β : Type} (N : Nat) : lookL (E143 (β := β) N).loops (lp Tryz.f143 0).id = LS143_0 N := by kernel_rfl
theorem rk143_0 {β : Type} (N : Nat) : RoundsOK lay (E143 (β := β) N) (retMask Tryz.f143) (lp Tryz.f143 0) := by
  intro s K r h
  rw [lk143_0] at h
  unfold LS143_0 VLS143_0 at h
  cases hb : shpSt (h143_0_0 0 0 0 0 0 0 false false) s with
  | true =>
    rw [hb, cond_true] at h
    exact ⟨N, by rw [← shpSt_ref hb, fl143_0_0 s]; exact (ro143_0_0 N  K N (intS (oneA (vT (nx tund s.tmps 1)))) (intS (oneA (vT (nx tund s.tmps 2)))) (intS (oneA (vT (nx tund s.tmps 11)))) (intS (oneA (vT (nx tund s.tmps 12)))) (intS (nx .und (cellsB (nx .dead s.blks 0)) 0)) (intS (nx .und (cellsB (nx .dead s.blks 0)) 1)) (boolS (nx .und (cellsB (nx .dead s.blks 1)) 0)) (boolS (nx .und (cellsB (nx .dead s.blks 1)) 1))).trans h⟩
  | false =>
  rw [hb, cond_false] at h
  clear hb
  cases h
def jb120 {β : Type} (N : Nat) (jq90 : (a0 : Int) → (a1 : Int) → (k : Int → Option β) → Option β) (jq119 : Nat → Int → Int → Int → Int → Int → Int → Bool → Bool → (Bool → Bool → Option β) → Option β) (a0 : Int) (a1 : Int) (a2 : Int) (a3 : Int) (k : Int → Option β) : Option β :=
jq90 a0 a1 fun r5 =>
jq119  N a2 a3 r5 0 a0 a1 false false (fun e7_0 e7_1 =>
(cond e7_0
((cond e7_1
(k 2)
((cond e7_1
(k 1)
(k 0)))))
((cond e7_1
(k 1)
(k 0)))))
theorem jt120 {β : Type} (N : Nat) (a0 : Int) (a1 : Int) (a2 : Int) (a3 : Int) (k : Int → Option β) : j120 N a0 a1 a2 a3 k = jb120 N (j90 N) (j119 N) a0 a1 a2 a3 k := by
  unfold j120 jb120
  rfl
theorem ve143_0 {β : Type} (N : Nat) (jq90 : (a0 : Int) → (a1 : Int) → (k : Int → Option β) → Option β) (jq94 : (a0 : Int) → (a1 : Int) → (a2 : Int) → (k : Int → Option β) → Option β) (jq119 : Nat → Int → Int → Int → Int → Int → Int → Bool → Bool → (Bool → Bool → Option β) → Option β)  (a0 : Int) (a1 : Int) (a2 : Int) (a3 : Int) (K : TV → Option β) : evFn lay (VE143 N jq90 jq94 jq119) Tryz.f143 [.v (.agg [.int .i64 a0, .int .i64 a1]), .v (.one (.int .i64 a2)), .v (.one (.int .i64 a3))] K = jb120 N jq90 jq119 a0 a1 a2 a3 (fun z4 => K (.v (.one (.int .i64 z4)))) := by kernel_rfl
theorem e143_0 {β : Type} (N : Nat)  (a0 : Int) (a1 : Int) (a2 : Int) (a3 : Int) (K : TV → Option β) : evFn lay (E143 N) Tryz.f143 [.v (.agg [.int .i64 a0, .int .i64 a1]), .v (.one (.int .i64 a2)), .v (.one (.int .i64 a3))] K = j120 N a0 a1 a2 a3 (fun z4 => K (.v (.one (.int .i64 z4)))) := (ve143_0 N (j90 N) (j94 N) (j119 N) a0 a1 a2 a3 K).trans (jt120 N a0 a1 a2 a3 (fun z4 => K (.v (.one (.int .i64 z4))))).symm
theorem o143 {β : Type} (N : Nat) : SpecOK (β := β) inv Tryz.prog 143 (S143 N) := by
  refine spec_of lay_ok mixed (E := E143 N) (specs_loops (specs_cons (o100 N) (specs_cons (o103 N) specs_nil))) muts_nil gs_nil Tryz.func143 (by kernel_rfl) 1 (by kernel_rfl) ⟨trivial, rk143_0 N⟩ fun args K r h => ?_
  unfold S143 VS143 at h
  split at h
  · exact (e143_0 N _ _ _ _ _).trans h
  · cases h
def VS200 {β : Type} (N : Nat) (jq121 : (a0 : Int) → (a1 : Int) → (a2 : Int) → (a3 : Int) → (k : Bool → Option β) → Option β) : Rv.Spec β := fun args K => match args with
  | [.v (.agg [.int .i64 a0, .int .i64 a1]), .v (.one (.int .i64 a2)), .v (.one (.int .i64 a3))] => jq121 a0 a1 a2 a3 (fun z4 => K (.v (.one (.bool z4))))
  | _ => none
def S200 {β : Type} (N : Nat) : Rv.Spec β := VS200 N (j121 N)
def VE200 {β : Type} (N : Nat) (jq120 : (a0 : Int) → (a1 : Int) → (a2 : Int) → (a3 : Int) → (k : Int → Option β) → Option β) : Env β := ⟨[(143, VS143 N jq120)], [], [], [], ⟨[], [], []⟩⟩
def E200 {β : Type} (N : Nat) : Env β := VE200 N (j120 N)
def jb121 {β : Type} (N : Nat) (jq120 : (a0 : Int) → (a1 : Int) → (a2 : Int) → (a3 : Int) → (k : Int → Option β) → Option β) (a0 : Int) (a1 : Int) (a2 : Int) (a3 : Int) (k : Bool → Option β) : Option β :=
jq120 a0 a1 a3 ((bits .and .i64 a2 a3)) fun r5 =>
k ((r5 != 2))
theorem jt121 {β : Type} (N : Nat) (a0 : Int) (a1 : Int) (a2 : Int) (a3 : Int) (k : Bool → Option β) : j121 N a0 a1 a2 a3 k = jb121 N (j120 N) a0 a1 a2 a3 k := by
  unfold j121 jb121
  rfl
theorem ve200_0 {β : Type} (N : Nat) (jq120 : (a0 : Int) → (a1 : Int) → (a2 : Int) → (a3 : Int) → (k : Int → Option β) → Option β)  (a0 : Int) (a1 : Int) (a2 : Int) (a3 : Int) (K : TV → Option β) : evFn lay (VE200 N jq120) Tryz.f200 [.v (.agg [.int .i64 a0, .int .i64 a1]), .v (.one (.int .i64 a2)), .v (.one (.int .i64 a3))] K = jb121 N jq120 a0 a1 a2 a3 (fun z4 => K (.v (.one (.bool z4)))) := by kernel_rfl
theorem e200_0 {β : Type} (N : Nat)  (a0 : Int) (a1 : Int) (a2 : Int) (a3 : Int) (K : TV → Option β) : evFn lay (E200 N) Tryz.f200 [.v (.agg [.int .i64 a0, .int .i64 a1]), .v (.one (.int .i64 a2)), .v (.one (.int .i64 a3))] K = j121 N a0 a1 a2 a3 (fun z4 => K (.v (.one (.bool z4)))) := (ve200_0 N (j120 N) a0 a1 a2 a3 K).trans (jt121 N a0 a1 a2 a3 (fun z4 => K (.v (.one (.bool z4))))).symm
theorem o200 {β : Type} (N : Nat) : SpecOK (β := β) inv Tryz.prog 200 (S200 N) := by
  refine spec_of lay_ok mixed (E := E200 N) (specs_loops (specs_cons (o143 N) specs_nil)) muts_nil gs_nil Tryz.func200 (by kernel_rfl) 0 (by kernel_rfl) trivial fun args K r h => ?_
  unfold S200 VS200 at h
  split at h
  · exact (e200_0 N _ _ _ _ _).trans h
  · cases h
def VS135 {β : Type} (N : Nat) (jq124 : (a0 : Int) → (a1 : Int) → (a2 : Int) → (k : Int → Option β) → Option β) : Rv.Spec β := fun args K => match args with
  | [.v (.agg [.int .i64 a0, .int .i64 a1]), .v (.one (.int .i64 a2))] => jq124 a0 a1 a2 (fun z3 => K (.v (.one (.int .i64 z3))))
  | _ => none
def S135 {β : Type} (N : Nat) : Rv.Spec β := VS135 N (j124 N)
def h135_0_0  (v0 : Int) (v1 : Int) (v2 : Int) (v3 : Int) (v4 : Int) (v5 : Int) : St := ⟨tund :: .v (.one (.int .i64 v0)) :: .v (.one (.ptr 0 0)) :: tund :: tund :: .v (.one (.int .i64 v1)) :: tund :: tund :: tund :: tund :: tund :: .v (.one (.int .i64 v2)) :: .v (.one (.int .i64 v3)) :: tund :: tund :: tund :: tund :: tund :: tund :: tund :: tund :: tund :: tund :: tund :: tund :: tund :: tund :: tund :: tund :: [], [.cells 25 [.int .i64 v4, .int .i64 v5]]⟩
def x135_0_0_k0  (y0 : Int) : St := ⟨tund :: tund :: tund :: tund :: tund :: .v (.one (.int .i64 y0)) :: tund :: tund :: tund :: tund :: tund :: tund :: tund :: tund :: tund :: tund :: tund :: tund :: tund :: tund :: tund :: tund :: tund :: tund :: tund :: tund :: tund :: tund :: tund :: [], []⟩
theorem fl135_0_0 (s : St) : refSt (h135_0_0 0 0 0 0 0 0) s = h135_0_0 (intS (oneA (vT (nx tund s.tmps 1)))) (intS (oneA (vT (nx tund s.tmps 5)))) (intS (oneA (vT (nx tund s.tmps 11)))) (intS (oneA (vT (nx tund s.tmps 12)))) (intS (nx .und (cellsB (nx .dead s.blks 0)) 0)) (intS (nx .und (cellsB (nx .dead s.blks 0)) 1)) := by kernel_rfl
def VLS135_0 {β : Type} (N : Nat) (jq123 : Nat → Int → Int → Int → Int → Int → Int → (Int → Option β) → Option β) : LSpec β := fun s K => cond (shpSt (h135_0_0 0 0 0 0 0 0) s) ((fun (v0 : Int) (v1 : Int) (v2 : Int) (v3 : Int) (v4 : Int) (v5 : Int) => jq123  N v0 v1 v2 v3 v4 v5 (fun y0 => K (.exit 0) (x135_0_0_k0  y0))) (intS (oneA (vT (nx tund s.tmps 1)))) (intS (oneA (vT (nx tund s.tmps 5)))) (intS (oneA (vT (nx tund s.tmps 11)))) (intS (oneA (vT (nx tund s.tmps 12)))) (intS (nx .und (cellsB (nx .dead s.blks 0)) 0)) (intS (nx .und (cellsB (nx .dead s.blks 0)) 1))) (none)
def LS135_0 {β : Type} (N : Nat) : LSpec β := VLS135_0 N (j123 N)
def VE135 {β : Type} (N : Nat) (jq90 : (a0 : Int) → (a1 : Int) → (k : Int → Option β) → Option β) (jq117 : (a0 : Int) → (k : Int → Option β) → Option β) (jq121 : (a0 : Int) → (a1 : Int) → (a2 : Int) → (a3 : Int) → (k : Bool → Option β) → Option β) (jq123 : Nat → Int → Int → Int → Int → Int → Int → (Int → Option β) → Option β) : Env β := ⟨[(100, VS100 N jq90), (104, VS104 N jq117), (200, VS200 N jq121)], [], [(0, VLS135_0 N jq123)], [], ⟨[], [], []⟩⟩
def E135 {β : Type} (N : Nat) : Env β := VE135 N (j90 N) (j117 N) (j121 N) (j123 N)
def jb122 {β : Type} (N : Nat) (jq117 : (a0 : Int) → (k : Int → Option β) → Option β) (jq121 : (a0 : Int) → (a1 : Int) → (a2 : Int) → (a3 : Int) → (k : Bool → Option β) → Option β)  (v0 : Int) (v1 : Int) (v2 : Int) (v3 : Int) (v4 : Int) (v5 : Int) (rec_ : Int → Int → Int → Int → Int → Int → Option β) (k0 : Int → Option β) : Option β :=
(cond ((decide (v3 < v2)))
(jq117 v3 fun r6 =>
jq117 v1 fun r7 =>
(cond ((decide (r6 < r7)))
(jq121 v4 v5 v0 v3 fun r8 =>
(cond r8
(rec_ v0 v3 v2 ((w64 (v3 + 1))) v4 v5)
(rec_ v0 v1 v2 ((w64 (v3 + 1))) v4 v5)))
(rec_ v0 v1 v2 ((w64 (v3 + 1))) v4 v5)))
(k0 v1))
theorem jt122 {β : Type} (N : Nat)  (v0 : Int) (v1 : Int) (v2 : Int) (v3 : Int) (v4 : Int) (v5 : Int) (rec_ : Int → Int → Int → Int → Int → Int → Option β) (k0 : Int → Option β) : j122 N v0 v1 v2 v3 v4 v5 rec_ k0 = jb122 N (j117 N) (j121 N) v0 v1 v2 v3 v4 v5 rec_ k0 := by
  unfold j122 jb122
  rfl
theorem vst135_0_0 {β : Type} (N : Nat) (jq90 : (a0 : Int) → (a1 : Int) → (k : Int → Option β) → Option β) (jq117 : (a0 : Int) → (k : Int → Option β) → Option β) (jq121 : (a0 : Int) → (a1 : Int) → (a2 : Int) → (a3 : Int) → (k : Bool → Option β) → Option β) (jq123 : Nat → Int → Int → Int → Int → Int → Int → (Int → Option β) → Option β)  (v0 : Int) (v1 : Int) (v2 : Int) (v3 : Int) (v4 : Int) (v5 : Int) (rec_ : St → Option β) (K : Exit → St → Option β) :
    ev lay (VE135 N jq90 jq117 jq121 jq123) (retMask Tryz.f135) (lp Tryz.f135 0).body (lp Tryz.f135 0).ex ((lp Tryz.f135 0).lv (retMask Tryz.f135)) (h135_0_0  v0 v1 v2 v3 v4 v5) (nextR (fun s' => rec_ (s'.tidy ((lp Tryz.f135 0).lv (retMask Tryz.f135)))) K) = jb122 N jq117 jq121  v0 v1 v2 v3 v4 v5 (fun v0 v1 v2 v3 v4 v5 => rec_ (h135_0_0  v0 v1 v2 v3 v4 v5)) (fun y0 => K (.exit 0) (x135_0_0_k0  y0)) := by kernel_rfl
theorem st135_0_0 {β : Type} (N : Nat)  (v0 : Int) (v1 : Int) (v2 : Int) (v3 : Int) (v4 : Int) (v5 : Int) (rec_ : St → Option β) (K : Exit → St → Option β) :
    ev lay (E135 N) (retMask Tryz.f135) (lp Tryz.f135 0).body (lp Tryz.f135 0).ex ((lp Tryz.f135 0).lv (retMask Tryz.f135)) (h135_0_0  v0 v1 v2 v3 v4 v5) (nextR (fun s' => rec_ (s'.tidy ((lp Tryz.f135 0).lv (retMask Tryz.f135)))) K) = j122 N  v0 v1 v2 v3 v4 v5 (fun v0 v1 v2 v3 v4 v5 => rec_ (h135_0_0  v0 v1 v2 v3 v4 v5)) (fun y0 => K (.exit 0) (x135_0_0_k0  y0)) := (vst135_0_0 N (j90 N) (j117 N) (j121 N) (j123 N) v0 v1 v2 v3 v4 v5 rec_ K).trans (jt122 N  v0 v1 v2 v3 v4 v5 (fun v0 v1 v2 v3 v4 v5 => rec_ (h135_0_0  v0 v1 v2 v3 v4 v5)) (fun y0 => K (.exit 0) (x135_0_0_k0  y0))).symm
theorem ro135_0_0 {β : Type} (N : Nat)  (K : Exit → St → Option β) : ∀ (F : Nat) (v0 : Int) (v1 : Int) (v2 : Int) (v3 : Int) (v4 : Int) (v5 : Int), (lp Tryz.f135 0).rounds lay (E135 N) (retMask Tryz.f135) F (h135_0_0  v0 v1 v2 v3 v4 v5) K = j123 N  F v0 v1 v2 v3 v4 v5 (fun y0 => K (.exit 0) (x135_0_0_k0  y0)) := by
  intro F
  induction F with
  | zero => intros; rfl
  | succ F ih =>
    intros
    rw [rounds_next]
    refine (st135_0_0 N  _ _ _ _ _ _ (fun s => (lp Tryz.f135 0).rounds lay (E135 N) (retMask Tryz.f135) F s K) K).trans ?_
    simp only [ih]
    rfl
theorem lk135_0 {β : Type} (N : Nat) : lookL (E135 (β := β) N).loops (lp Tryz.f135 0).id = LS135_0 N := by kernel_rfl
theorem rk135_0 {β : Type} (N : Nat) : RoundsOK lay (E135 (β := β) N) (retMask Tryz.f135) (lp Tryz.f135 0) := by
  intro s K r h
  rw [lk135_0] at h
  unfold LS135_0 VLS135_0 at h
  cases hb : shpSt (h135_0_0 0 0 0 0 0 0) s with
  | true =>
    rw [hb, cond_true] at h
    exact ⟨N, by rw [← shpSt_ref hb, fl135_0_0 s]; exact (ro135_0_0 N  K N (intS (oneA (vT (nx tund s.tmps 1)))) (intS (oneA (vT (nx tund s.tmps 5)))) (intS (oneA (vT (nx tund s.tmps 11)))) (intS (oneA (vT (nx tund s.tmps 12)))) (intS (nx .und (cellsB (nx .dead s.blks 0)) 0)) (intS (nx .und (cellsB (nx .dead s.blks 0)) 1))).trans h⟩
  | false =>
  rw [hb, cond_false] at h
  clear hb
  cases h
def jb124 {β : Type} (N : Nat) (jq90 : (a0 : Int) → (a1 : Int) → (k : Int → Option β) → Option β) (jq123 : Nat → Int → Int → Int → Int → Int → Int → (Int → Option β) → Option β) (a0 : Int) (a1 : Int) (a2 : Int) (k : Int → Option β) : Option β :=
jq90 a0 a1 fun r4 =>
jq90 a0 a1 fun r5 =>
jq123  N a2 ((w64 (r4 - 1))) r5 0 a0 a1 (fun e9_0 =>
k e9_0)
theorem jt124 {β : Type} (N : Nat) (a0 : Int) (a1 : Int) (a2 : Int) (k : Int → Option β) : j124 N a0 a1 a2 k = jb124 N (j90 N) (j123 N) a0 a1 a2 k := by
  unfold j124 jb124
  rfl
theorem ve135_0 {β : Type} (N : Nat) (jq90 : (a0 : Int) → (a1 : Int) → (k : Int → Option β) → Option β) (jq117 : (a0 : Int) → (k : Int → Option β) → Option β) (jq121 : (a0 : Int) → (a1 : Int) → (a2 : Int) → (a3 : Int) → (k : Bool → Option β) → Option β) (jq123 : Nat → Int → Int → Int → Int → Int → Int → (Int → Option β) → Option β)  (a0 : Int) (a1 : Int) (a2 : Int) (K : TV → Option β) : evFn lay (VE135 N jq90 jq117 jq121 jq123) Tryz.f135 [.v (.agg [.int .i64 a0, .int .i64 a1]), .v (.one (.int .i64 a2))] K = jb124 N jq90 jq123 a0 a1 a2 (fun z3 => K (.v (.one (.int .i64 z3)))) := by kernel_rfl
theorem e135_0 {β : Type} (N : Nat)  (a0 : Int) (a1 : Int) (a2 : Int) (K : TV → Option β) : evFn lay (E135 N) Tryz.f135 [.v (.agg [.int .i64 a0, .int .i64 a1]), .v (.one (.int .i64 a2))] K = j124 N a0 a1 a2 (fun z3 => K (.v (.one (.int .i64 z3)))) := (ve135_0 N (j90 N) (j117 N) (j121 N) (j123 N) a0 a1 a2 K).trans (jt124 N a0 a1 a2 (fun z3 => K (.v (.one (.int .i64 z3))))).symm
theorem o135 {β : Type} (N : Nat) : SpecOK (β := β) inv Tryz.prog 135 (S135 N) := by
  refine spec_of lay_ok mixed (E := E135 N) (specs_loops (specs_cons (o100 N) (specs_cons (o104 N) (specs_cons (o200 N) specs_nil)))) muts_nil gs_nil Tryz.func135 (by kernel_rfl) 1 (by kernel_rfl) ⟨trivial, rk135_0 N⟩ fun args K r h => ?_
  unfold S135 VS135 at h
  split at h
  · exact (e135_0 N _ _ _ _).trans h
  · cases h
end Go.Proofs.YtignjkbhdaiegaaGreatDoor
