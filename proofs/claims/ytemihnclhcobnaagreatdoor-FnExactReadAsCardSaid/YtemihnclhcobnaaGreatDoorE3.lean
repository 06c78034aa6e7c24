/- The functions that the claims reach answer as their texts do. -/
import Derived.Test.YtemihnclhcobnaaGreatDoorE2
namespace Go.Proofs.YtemihnclhcobnaaGreatDoor
open Go.Rv
set_option maxRecDepth 100000
set_option maxHeartbeats 2000000
set_option linter.unusedVariables false
def VS63 {β : Type} (N : Nat) (zq63 : (a0 : ByteArray) → (a1 : Int) → (k : Int → Int → Bool → Option β) → Option β) : Rv.Spec β := fun args K => match args with
  | [.v (.one (.str a0)), .v (.one (.int .i64 a1))] => zq63 a0 a1 (fun z2 z3 z4 => K (.tup [.agg [.int .i64 z2, .int .i64 z3], .one (.bool z4)]))
  | _ => none
def S63 {β : Type} (N : Nat) : Rv.Spec β := VS63 N (zj63 N)
def h63_0_0  (v0 : ByteArray) (v1 : Int) (v2 : Int) (v3 : Int) (v4 : Int) : St := ⟨.v (.one (.str v0)) :: .v (.one (.int .i64 v1)) :: tund :: tund :: .v (.one (.ptr 0 0)) :: tund :: .v (.one (.int .i64 v2)) :: tund :: tund :: tund :: tund :: tund :: tund :: tund :: tund :: tund :: tund :: tund :: tund :: tund :: tund :: tund :: tund :: tund :: tund :: tund :: tund :: tund :: tund :: tund :: tund :: tund :: tund :: tund :: tund :: tund :: tund :: tund :: tund :: tund :: tund :: tund :: tund :: tund :: tund :: tund :: tund :: tund :: tund :: tund :: tund :: tund :: tund :: tund :: tund :: tund :: tund :: tund :: tund :: tund :: [], [.cells 25 [.int .i64 v3, .int .i64 v4]]⟩
def x63_0_0_k0  (y0 : Bool) (y1 : Int) (y2 : Int) : St := ⟨tund :: tund :: tund :: tund :: .v (.one (.ptr 0 0)) :: .v (.one (.bool y0)) :: tund :: tund :: tund :: tund :: tund :: tund :: tund :: tund :: tund :: tund :: tund :: tund :: tund :: tund :: tund :: tund :: tund :: tund :: tund :: tund :: tund :: tund :: tund :: tund :: tund :: tund :: tund :: tund :: tund :: tund :: tund :: tund :: tund :: tund :: tund :: tund :: tund :: tund :: tund :: tund :: tund :: tund :: tund :: tund :: tund :: tund :: tund :: tund :: tund :: tund :: tund :: tund :: tund :: tund :: [], [.cells 25 [.int .i64 y1, .int .i64 y2]]⟩
def x63_0_0_k1  (y0 : ByteArray) (y1 : Int) (y2 : Int) (y3 : Int) : St := ⟨.v (.one (.str y0)) :: .v (.one (.int .i64 y1)) :: tund :: tund :: .v (.one (.ptr 0 0)) :: tund :: tund :: tund :: tund :: tund :: tund :: tund :: tund :: tund :: tund :: tund :: tund :: tund :: tund :: tund :: tund :: tund :: tund :: tund :: tund :: tund :: tund :: tund :: tund :: tund :: tund :: tund :: tund :: tund :: tund :: tund :: tund :: tund :: tund :: tund :: tund :: tund :: tund :: tund :: tund :: tund :: tund :: tund :: tund :: tund :: tund :: tund :: tund :: tund :: tund :: tund :: tund :: tund :: tund :: tund :: [], [.cells 25 [.int .i64 y2, .int .i64 y3]]⟩
def h63_1_0  (v0 : ByteArray) (v1 : Int) (v2 : Int) (v3 : Int) (v4 : Int) (v5 : Int) : St := ⟨.v (.one (.str v0)) :: .v (.one (.int .i64 v1)) :: tund :: tund :: .v (.one (.ptr 0 0)) :: tund :: tund :: .v (.one (.int .i64 v2)) :: .v (.one (.int .i64 v3)) :: tund :: tund :: tund :: tund :: tund :: tund :: tund :: tund :: tund :: tund :: tund :: tund :: tund :: tund :: tund :: tund :: tund :: tund :: tund :: tund :: tund :: tund :: tund :: tund :: tund :: tund :: tund :: tund :: tund :: tund :: tund :: tund :: tund :: tund :: tund :: tund :: tund :: tund :: tund :: tund :: tund :: tund :: tund :: tund :: tund :: tund :: tund :: tund :: tund :: tund :: tund :: [], [.cells 25 [.int .i64 v4, .int .i64 v5]]⟩
def x63_1_0_k0  (y0 : Int) (y1 : Int) (y2 : Int) (y3 : Int) : St := ⟨tund :: .v (.one (.int .i64 y0)) :: tund :: tund :: .v (.one (.ptr 0 0)) :: tund :: tund :: .v (.one (.int .i64 y1)) :: tund :: tund :: tund :: tund :: tund :: tund :: tund :: tund :: tund :: tund :: tund :: tund :: tund :: tund :: tund :: tund :: tund :: tund :: tund :: tund :: tund :: tund :: tund :: tund :: tund :: tund :: tund :: tund :: tund :: tund :: tund :: tund :: tund :: tund :: tund :: tund :: tund :: tund :: tund :: tund :: tund :: tund :: tund :: tund :: tund :: tund :: tund :: tund :: tund :: tund :: tund :: tund :: [], [.cells 25 [.int .i64 y2, .int .i64 y3]]⟩
theorem fl63_0_0 (s : St) : refSt (h63_0_0 ByteArray.empty 0 0 0 0) s = h63_0_0 (strS (oneA (vT (nx tund s.tmps 0)))) (intS (oneA (vT (nx tund s.tmps 1)))) (intS (oneA (vT (nx tund s.tmps 6)))) (intS (nx .und (cellsB (nx .dead s.blks 0)) 0)) (intS (nx .und (cellsB (nx .dead s.blks 0)) 1)) := by kernel_rfl
def VLS63_0 {β : Type} (N : Nat) (zq60 : Nat → ByteArray → Int → Int → Int → Int → (Bool → Int → Int → Option β) → (ByteArray → Int → Int → Int → Option β) → Option β) : LSpec β := fun s K => cond (shpSt (h63_0_0 ByteArray.empty 0 0 0 0) s) ((fun (v0 : ByteArray) (v1 : Int) (v2 : Int) (v3 : Int) (v4 : Int) => zq60  N v0 v1 v2 v3 v4 (fun y0 y1 y2 => K .ret (x63_0_0_k0  y0 y1 y2)) (fun y0 y1 y2 y3 => K (.exit 0) (x63_0_0_k1  y0 y1 y2 y3))) (strS (oneA (vT (nx tund s.tmps 0)))) (intS (oneA (vT (nx tund s.tmps 1)))) (intS (oneA (vT (nx tund s.tmps 6)))) (intS (nx .und (cellsB (nx .dead s.blks 0)) 0)) (intS (nx .und (cellsB (nx .dead s.blks 0)) 1))) (none)
def LS63_0 {β : Type} (N : Nat) : LSpec β := VLS63_0 N (zj60 N)
theorem fl63_1_0 (s : St) : refSt (h63_1_0 ByteArray.empty 0 0 0 0 0) s = h63_1_0 (strS (oneA (vT (nx tund s.tmps 0)))) (intS (oneA (vT (nx tund s.tmps 1)))) (intS (oneA (vT (nx tund s.tmps 7)))) (intS (oneA (vT (nx tund s.tmps 8)))) (intS (nx .und (cellsB (nx .dead s.blks 0)) 0)) (intS (nx .und (cellsB (nx .dead s.blks 0)) 1)) := by kernel_rfl
def VLS63_2 {β : Type} (N : Nat) (zq62 : Nat → ByteArray → Int → Int → Int → Int → Int → (Int → Int → Int → Int → Option β) → Option β) : LSpec β := fun s K => cond (shpSt (h63_1_0 ByteArray.empty 0 0 0 0 0) s) ((fun (v0 : ByteArray) (v1 : Int) (v2 : Int) (v3 : Int) (v4 : Int) (v5 : Int) => zq62  N v0 v1 v2 v3 v4 v5 (fun y0 y1 y2 y3 => K (.exit 2) (x63_1_0_k0  y0 y1 y2 y3))) (strS (oneA (vT (nx tund s.tmps 0)))) (intS (oneA (vT (nx tund s.tmps 1)))) (intS (oneA (vT (nx tund s.tmps 7)))) (intS (oneA (vT (nx tund s.tmps 8)))) (intS (nx .und (cellsB (nx .dead s.blks 0)) 0)) (intS (nx .und (cellsB (nx .dead s.blks 0)) 1))) (none)
def LS63_2 {β : Type} (N : Nat) : LSpec β := VLS63_2 N (zj62 N)
def VE63 {β : Type} (N : Nat) (zq55 : (a0 : ByteArray) → (k : Bool → Option β) → Option β) (zq0 : (a0 : Int) → (a1 : Int) → (a2 : Int) → (k : Bool → Option β) → Option β) (zq57 : Nat → ByteArray → Int → Int → (Bool → Option β) → Option β) (zq60 : Nat → ByteArray → Int → Int → Int → Int → (Bool → Int → Int → Option β) → (ByteArray → Int → Int → Int → Option β) → Option β) (zq62 : Nat → ByteArray → Int → Int → Int → Int → Int → (Int → Int → Int → Int → Option β) → Option β) : Env β := ⟨[(127, VS127 N zq55), (57, VS57 N zq0), (128, VS128 N zq57)], [], [(0, VLS63_0 N zq60), (2, VLS63_2 N zq62)], [], ⟨[], [], [], []⟩⟩
def E63 {β : Type} (N : Nat) : Env β := VE63 N (zj55 N) (zj0 N) (zj57 N) (zj60 N) (zj62 N)
def zb59 {β : Type} (N : Nat)  (v0 : ByteArray) (v1 : Int) (v2 : Int) (v3 : Int) (v4 : Int) (rec_ : ByteArray → Int → Int → Int → Int → Option β) (k0 : Bool → Int → Int → Option β) (k1 : ByteArray → Int → Int → Int → Option β) : Option β :=
(cond ((decide (v2 < (v0.size : Int))))
((gd ((decide (0 ≤ v2)))
((gd ((decide (v2 < (v0.size : Int))))
((cond ((decide ((bt v0 v2) ≥ 97)))
((gd ((decide (0 ≤ v2)))
((gd ((decide (v2 < (v0.size : Int))))
((cond ((decide ((bt v0 v2) ≤ 101)))
((gd ((decide (0 ≤ v2)))
((gd ((decide (v2 < (v0.size : Int))))
((cond ((decide ((w64 ((w8 ((bt v0 v2) - 97)))) ≥ v1)))
(k0 false 0 0)
(rec_ v0 v1 ((w64 (v2 + 1))) v3 v4)))))))
(rec_ v0 v1 ((w64 (v2 + 1))) v3 v4)))))))
(rec_ v0 v1 ((w64 (v2 + 1))) v3 v4)))))))
(k1 v0 v1 v3 v4))
theorem zt59 {β : Type} (N : Nat)  (v0 : ByteArray) (v1 : Int) (v2 : Int) (v3 : Int) (v4 : Int) (rec_ : ByteArray → Int → Int → Int → Int → Option β) (k0 : Bool → Int → Int → Option β) (k1 : ByteArray → Int → Int → Int → Option β) : zj59 N v0 v1 v2 v3 v4 rec_ k0 k1 = zb59 N v0 v1 v2 v3 v4 rec_ k0 k1 := by
  unfold zj59 zb59
  rfl
theorem vst63_0_0 {β : Type} (N : Nat) (zq55 : (a0 : ByteArray) → (k : Bool → Option β) → Option β) (zq0 : (a0 : Int) → (a1 : Int) → (a2 : Int) → (k : Bool → Option β) → Option β) (zq57 : Nat → ByteArray → Int → Int → (Bool → Option β) → Option β) (zq60 : Nat → ByteArray → Int → Int → Int → Int → (Bool → Int → Int → Option β) → (ByteArray → Int → Int → Int → Option β) → Option β) (zq62 : Nat → ByteArray → Int → Int → Int → Int → Int → (Int → Int → Int → Int → Option β) → Option β)  (v0 : ByteArray) (v1 : Int) (v2 : Int) (v3 : Int) (v4 : Int) (rec_ : St → Option β) (K : Exit → St → Option β) :
    ev lay (VE63 N zq55 zq0 zq57 zq60 zq62) (retMask Tryz.f63) (lp Tryz.f63 0).body (lp Tryz.f63 0).ex ((lp Tryz.f63 0).lv (retMask Tryz.f63)) (h63_0_0  v0 v1 v2 v3 v4) (nextR (fun s' => rec_ (s'.tidy ((lp Tryz.f63 0).lv (retMask Tryz.f63)))) K) = zb59 N  v0 v1 v2 v3 v4 (fun v0 v1 v2 v3 v4 => rec_ (h63_0_0  v0 v1 v2 v3 v4)) (fun y0 y1 y2 => K .ret (x63_0_0_k0  y0 y1 y2)) (fun y0 y1 y2 y3 => K (.exit 0) (x63_0_0_k1  y0 y1 y2 y3)) := by kernel_rfl
theorem st63_0_0 {β : Type} (N : Nat)  (v0 : ByteArray) (v1 : Int) (v2 : Int) (v3 : Int) (v4 : Int) (rec_ : St → Option β) (K : Exit → St → Option β) :
    ev lay (E63 N) (retMask Tryz.f63) (lp Tryz.f63 0).body (lp Tryz.f63 0).ex ((lp Tryz.f63 0).lv (retMask Tryz.f63)) (h63_0_0  v0 v1 v2 v3 v4) (nextR (fun s' => rec_ (s'.tidy ((lp Tryz.f63 0).lv (retMask Tryz.f63)))) K) = zj59 N  v0 v1 v2 v3 v4 (fun v0 v1 v2 v3 v4 => rec_ (h63_0_0  v0 v1 v2 v3 v4)) (fun y0 y1 y2 => K .ret (x63_0_0_k0  y0 y1 y2)) (fun y0 y1 y2 y3 => K (.exit 0) (x63_0_0_k1  y0 y1 y2 y3)) := (vst63_0_0 N (zj55 N) (zj0 N) (zj57 N) (zj60 N) (zj62 N) v0 v1 v2 v3 v4 rec_ K).trans (zt59 N  v0 v1 v2 v3 v4 (fun v0 v1 v2 v3 v4 => rec_ (h63_0_0  v0 v1 v2 v3 v4)) (fun y0 y1 y2 => K .ret (x63_0_0_k0  y0 y1 y2)) (fun y0 y1 y2 y3 => K (.exit 0) (x63_0_0_k1  y0 y1 y2 y3))).symm
theorem ro63_0_0 {β : Type} (N : Nat)  (K : Exit → St → Option β) : ∀ (F : Nat) (v0 : ByteArray) (v1 : Int) (v2 : Int) (v3 : Int) (v4 : Int), (lp Tryz.f63 0).rounds lay (E63 N) (retMask Tryz.f63) F (h63_0_0  v0 v1 v2 v3 v4) K = zj60 N  F v0 v1 v2 v3 v4 (fun y0 y1 y2 => K .ret (x63_0_0_k0  y0 y1 y2)) (fun y0 y1 y2 y3 => K (.exit 0) (x63_0_0_k1  y0 y1 y2 y3)) := by
  intro F
  induction F with
  | zero => intros; rfl
  | succ F ih =>
    intros
    rw [rounds_next]
    refine (st63_0_0 N  _ _ _ _ _ (fun s => (lp Tryz.f63 0).rounds lay (E63 N) (retMask Tryz.f63) F s K) K).trans ?_
    simp only [ih]
    rfl
theorem lk63_0 {β : Type} (N : Nat) : lookL (E63 (β := β) N).loops (lp Tryz.f63 0).id = LS63_0 N := by kernel_rfl
theorem rk63_0 {β : Type} (N : Nat) : RoundsOK lay (E63 (β := β) N) (retMask Tryz.f63) (lp Tryz.f63 0) := by
  intro s K r h
  rw [lk63_0] at h
  unfold LS63_0 VLS63_0 at h
  cases hb : shpSt (h63_0_0 ByteArray.empty 0 0 0 0) s with
  | true =>
    rw [hb, cond_true] at h
    exact ⟨N, by rw [← shpSt_ref hb, fl63_0_0 s]; exact (ro63_0_0 N  K N (strS (oneA (vT (nx tund s.tmps 0)))) (intS (oneA (vT (nx tund s.tmps 1)))) (intS (oneA (vT (nx tund s.tmps 6)))) (intS (nx .und (cellsB (nx .dead s.blks 0)) 0)) (intS (nx .und (cellsB (nx .dead s.blks 0)) 1))).trans h⟩
  | false =>
  rw [hb, cond_false] at h
  clear hb
  cases h
def zb61 {β : Type} (N : Nat) (zq57 : Nat → ByteArray → Int → Int → (Bool → Option β) → Option β)  (v0 : ByteArray) (v1 : Int) (v2 : Int) (v3 : Int) (v4 : Int) (v5 : Int) (rec_ : ByteArray → Int → Int → Int → Int → Int → Option β) (k0 : Int → Int → Int → Int → Option β) : Option β :=
(gd ((decide (0 ≤ v1)))
((cond ((decide (v3 < (shlI .i64 1 v1))))
(zq57 N v0 0 v3 fun r9 =>
(cond r9
((gd ((decide (0 ≤ v3)))
(rec_ v0 v1 ((bits .or .i64 v2 (shlI .i64 1 v3))) ((w64 (v3 + 1))) v4 v5)))
(rec_ v0 v1 v2 ((w64 (v3 + 1))) v4 v5)))
(k0 v1 v2 v4 v5))))
theorem zt61 {β : Type} (N : Nat)  (v0 : ByteArray) (v1 : Int) (v2 : Int) (v3 : Int) (v4 : Int) (v5 : Int) (rec_ : ByteArray → Int → Int → Int → Int → Int → Option β) (k0 : Int → Int → Int → Int → Option β) : zj61 N v0 v1 v2 v3 v4 v5 rec_ k0 = zb61 N (zj57 N) v0 v1 v2 v3 v4 v5 rec_ k0 := by
  unfold zj61 zb61
  rfl
theorem vst63_1_0 {β : Type} (N : Nat) (zq55 : (a0 : ByteArray) → (k : Bool → Option β) → Option β) (zq0 : (a0 : Int) → (a1 : Int) → (a2 : Int) → (k : Bool → Option β) → Option β) (zq57 : Nat → ByteArray → Int → Int → (Bool → Option β) → Option β) (zq60 : Nat → ByteArray → Int → Int → Int → Int → (Bool → Int → Int → Option β) → (ByteArray → Int → Int → Int → Option β) → Option β) (zq62 : Nat → ByteArray → Int → Int → Int → Int → Int → (Int → Int → Int → Int → Option β) → Option β)  (v0 : ByteArray) (v1 : Int) (v2 : Int) (v3 : Int) (v4 : Int) (v5 : Int) (rec_ : St → Option β) (K : Exit → St → Option β) :
    ev lay (VE63 N zq55 zq0 zq57 zq60 zq62) (retMask Tryz.f63) (lp Tryz.f63 1).body (lp Tryz.f63 1).ex ((lp Tryz.f63 1).lv (retMask Tryz.f63)) (h63_1_0  v0 v1 v2 v3 v4 v5) (nextR (fun s' => rec_ (s'.tidy ((lp Tryz.f63 1).lv (retMask Tryz.f63)))) K) = zb61 N zq57  v0 v1 v2 v3 v4 v5 (fun v0 v1 v2 v3 v4 v5 => rec_ (h63_1_0  v0 v1 v2 v3 v4 v5)) (fun y0 y1 y2 y3 => K (.exit 2) (x63_1_0_k0  y0 y1 y2 y3)) := by kernel_rfl
theorem st63_1_0 {β : Type} (N : Nat)  (v0 : ByteArray) (v1 : Int) (v2 : Int) (v3 : Int) (v4 : Int) (v5 : Int) (rec_ : St → Option β) (K : Exit → St → Option β) :
    ev lay (E63 N) (retMask Tryz.f63) (lp Tryz.f63 1).body (lp Tryz.f63 1).ex ((lp Tryz.f63 1).lv (retMask Tryz.f63)) (h63_1_0  v0 v1 v2 v3 v4 v5) (nextR (fun s' => rec_ (s'.tidy ((lp Tryz.f63 1).lv (retMask Tryz.f63)))) K) = zj61 N  v0 v1 v2 v3 v4 v5 (fun v0 v1 v2 v3 v4 v5 => rec_ (h63_1_0  v0 v1 v2 v3 v4 v5)) (fun y0 y1 y2 y3 => K (.exit 2) (x63_1_0_k0  y0 y1 y2 y3)) := (vst63_1_0 N (zj55 N) (zj0 N) (zj57 N) (zj60 N) (zj62 N) v0 v1 v2 v3 v4 v5 rec_ K).trans (zt61 N  v0 v1 v2 v3 v4 v5 (fun v0 v1 v2 v3 v4 v5 => rec_ (h63_1_0  v0 v1 v2 v3 v4 v5)) (fun y0 y1 y2 y3 => K (.exit 2) (x63_1_0_k0  y0 y1 y2 y3))).symm
theorem ro63_1_0 {β : Type} (N : Nat)  (K : Exit → St → Option β) : ∀ (F : Nat) (v0 : ByteArray) (v1 : Int) (v2 : Int) (v3 : Int) (v4 : Int) (v5 : Int), (lp Tryz.f63 1).rounds lay (E63 N) (retMask Tryz.f63) F (h63_1_0  v0 v1 v2 v3 v4 v5) K = zj62 N  F v0 v1 v2 v3 v4 v5 (fun y0 y1 y2 y3 => K (.exit 2) (x63_1_0_k0  y0 y1 y2 y3)) := by
  intro F
  induction F with
  | zero => intros; rfl
  | succ F ih =>
    intros
    rw [rounds_next]
    refine (st63_1_0 N  _ _ _ _ _ _ (fun s => (lp Tryz.f63 1).rounds lay (E63 N) (retMask Tryz.f63) F s K) K).trans ?_
    simp only [ih]
    rfl
theorem lk63_2 {β : Type} (N : Nat) : lookL (E63 (β := β) N).loops (lp Tryz.f63 1).id = LS63_2 N := by kernel_rfl
theorem rk63_2 {β : Type} (N : Nat) : RoundsOK lay (E63 (β := β) N) (retMask Tryz.f63) (lp Tryz.f63 1) := by
  intro s K r h
  rw [lk63_2] at h
  unfold LS63_2 VLS63_2 at h
  cases hb : shpSt (h63_1_0 ByteArray.empty 0 0 0 0 0) s with
  | true =>
    rw [hb, cond_true] at h
    exact ⟨N, by rw [← shpSt_ref hb, fl63_1_0 s]; exact (ro63_1_0 N  K N (strS (oneA (vT (nx tund s.tmps 0)))) (intS (oneA (vT (nx tund s.tmps 1)))) (intS (oneA (vT (nx tund s.tmps 7)))) (intS (oneA (vT (nx tund s.tmps 8)))) (intS (nx .und (cellsB (nx .dead s.blks 0)) 0)) (intS (nx .und (cellsB (nx .dead s.blks 0)) 1))).trans h⟩
  | false =>
  rw [hb, cond_false] at h
  clear hb
  cases h
def zb63 {β : Type} (N : Nat) (zq55 : (a0 : ByteArray) → (k : Bool → Option β) → Option β) (zq0 : (a0 : Int) → (a1 : Int) → (a2 : Int) → (k : Bool → Option β) → Option β) (zq60 : Nat → ByteArray → Int → Int → Int → Int → (Bool → Int → Int → Option β) → (ByteArray → Int → Int → Int → Option β) → Option β) (zq62 : Nat → ByteArray → Int → Int → Int → Int → Int → (Int → Int → Int → Int → Option β) → Option β) (a0 : ByteArray) (a1 : Int) (k : Int → Int → Bool → Option β) : Option β :=
zq55 a0 fun r5 =>
(cond (!r5)
(k 0 0 false)
(zq0 a1 0 5 fun r6 =>
(cond (!r6)
(k 0 0 false)
(zq60  N a0 a1 0 0 0 (fun e7_0 e7_1 e7_2 =>
k e7_1 e7_2 e7_0) (fun e8_0 e8_1 e8_2 e8_3 =>
zq62  N e8_0 e8_1 0 0 e8_2 e8_3 (fun e10_0 e10_1 e10_2 e10_3 =>
k e10_0 e10_1 true))))))
theorem zt63 {β : Type} (N : Nat) (a0 : ByteArray) (a1 : Int) (k : Int → Int → Bool → Option β) : zj63 N a0 a1 k = zb63 N (zj55 N) (zj0 N) (zj60 N) (zj62 N) a0 a1 k := by
  unfold zj63 zb63
  rfl
theorem ve63_0 {β : Type} (N : Nat) (zq55 : (a0 : ByteArray) → (k : Bool → Option β) → Option β) (zq0 : (a0 : Int) → (a1 : Int) → (a2 : Int) → (k : Bool → Option β) → Option β) (zq57 : Nat → ByteArray → Int → Int → (Bool → Option β) → Option β) (zq60 : Nat → ByteArray → Int → Int → Int → Int → (Bool → Int → Int → Option β) → (ByteArray → Int → Int → Int → Option β) → Option β) (zq62 : Nat → ByteArray → Int → Int → Int → Int → Int → (Int → Int → Int → Int → Option β) → Option β)  (a0 : ByteArray) (a1 : Int) (K : TV → Option β) : evFn lay (VE63 N zq55 zq0 zq57 zq60 zq62) Tryz.f63 [.v (.one (.str a0)), .v (.one (.int .i64 a1))] K = zb63 N zq55 zq0 zq60 zq62 a0 a1 (fun z2 z3 z4 => K (.tup [.agg [.int .i64 z2, .int .i64 z3], .one (.bool z4)])) := by kernel_rfl
theorem e63_0 {β : Type} (N : Nat)  (a0 : ByteArray) (a1 : Int) (K : TV → Option β) : evFn lay (E63 N) Tryz.f63 [.v (.one (.str a0)), .v (.one (.int .i64 a1))] K = zj63 N a0 a1 (fun z2 z3 z4 => K (.tup [.agg [.int .i64 z2, .int .i64 z3], .one (.bool z4)])) := (ve63_0 N (zj55 N) (zj0 N) (zj57 N) (zj60 N) (zj62 N) a0 a1 K).trans (zt63 N a0 a1 (fun z2 z3 z4 => K (.tup [.agg [.int .i64 z2, .int .i64 z3], .one (.bool z4)]))).symm
theorem o63 {β : Type} (N : Nat) : SpecOK (β := β) inv Tryz.prog 63 (S63 N) := by
  refine spec_of lay_ok mixed (E := E63 N) (specs_loops (specs_cons (o127 N) (specs_cons (o57 N) (specs_cons (o128 N) specs_nil)))) muts_nil gs_nil Tryz.func63 (by kernel_rfl) 2 (by kernel_rfl) ⟨⟨trivial, rk63_0 N⟩, rk63_2 N⟩ fun args K r h => ?_
  unfold S63 VS63 at h
  split at h
  · exact (e63_0 N _ _ _).trans h
  · cases h
def VS11 {β : Type} (N : Nat) (zq64 : (a0 : ByteArray) → (a1 : Int) → (a2 : ByteArray) → (k : Int → Int → Bool → Option β) → Option β) : Rv.Spec β := fun args K => match args with
  | [.v (.one (.str a0)), .v (.one (.int .i64 a1)), .v (.one (.str a2))] => zq64 a0 a1 a2 (fun z3 z4 z5 => K (.tup [.agg [.int .i64 z3, .int .i64 z4], .one (.bool z5)]))
  | _ => none
def S11 {β : Type} (N : Nat) : Rv.Spec β := VS11 N (zj64 N)
def VE11 {β : Type} (N : Nat) (zq0 : (a0 : Int) → (a1 : Int) → (a2 : Int) → (k : Bool → Option β) → Option β) (zq5 : (a0 : ByteArray) → (k : Int → Int → Bool → Option β) → Option β) (zq24 : (a0 : Int) → (a1 : ByteArray) → (k : Int → Int → Bool → Option β) → Option β) (zq30 : (a0 : Int) → (a1 : ByteArray) → (k : List (Int × Int) → Bool → Option β) → Option β) (zq36 : (a0 : Int) → (a1 : List (Int × Int)) → (k : Int → Int → Bool → Option β) → Option β) (zq51 : (a0 : ByteArray) → (a1 : Int) → (k : Int → Int → Bool → Option β) → Option β) (zq63 : (a0 : ByteArray) → (a1 : Int) → (k : Int → Int → Bool → Option β) → Option β) : Env β := ⟨[(57, VS57 N zq0), (58, VS58 N zq5), (59, VS59 N zq24), (60, VS60 N zq30), (61, VS61 N zq36), (62, VS62 N zq51), (63, VS63 N zq63)], [], [], [], ⟨[], [], [], []⟩⟩
def E11 {β : Type} (N : Nat) : Env β := VE11 N (zj0 N) (zj5 N) (zj24 N) (zj30 N) (zj36 N) (zj51 N) (zj63 N)
def zb64 {β : Type} (N : Nat) (zq0 : (a0 : Int) → (a1 : Int) → (a2 : Int) → (k : Bool → Option β) → Option β) (zq5 : (a0 : ByteArray) → (k : Int → Int → Bool → Option β) → Option β) (zq24 : (a0 : Int) → (a1 : ByteArray) → (k : Int → Int → Bool → Option β) → Option β) (zq30 : (a0 : Int) → (a1 : ByteArray) → (k : List (Int × Int) → Bool → Option β) → Option β) (zq36 : (a0 : Int) → (a1 : List (Int × Int)) → (k : Int → Int → Bool → Option β) → Option β) (zq51 : (a0 : ByteArray) → (a1 : Int) → (k : Int → Int → Bool → Option β) → Option β) (zq63 : (a0 : ByteArray) → (a1 : Int) → (k : Int → Int → Bool → Option β) → Option β) (a0 : ByteArray) (a1 : Int) (a2 : ByteArray) (k : Int → Int → Bool → Option β) : Option β :=
zq0 a1 0 4 fun r6 =>
(cond (!r6)
(k 0 0 false)
((cond ((a0.toList == ((strOf [116, 97, 98, 108, 101])).toList))
(zq5 a2 fun r7 r8 r9 =>
(cond (!r9)
(k 0 0 false)
((cond ((r7 != a1))
(k 0 0 false)
(k r7 r8 true)))))
((cond ((a0.toList == ((strOf [97, 110, 102])).toList))
(zq24 a1 a2 fun r10 r11 r12 =>
k r10 r11 r12)
((cond ((a0.toList == ((strOf [115, 117, 109])).toList))
(zq30 a1 a2 fun r13 r14 =>
(cond (!r14)
(k 0 0 false)
(zq36 a1 r13 fun r15 r16 r17 =>
k r15 r16 r17)))
((cond ((a0.toList == ((strOf [116, 114, 101, 101])).toList))
(zq51 a2 a1 fun r18 r19 r20 =>
k r18 r19 r20)
((cond ((a0.toList == ((strOf [102, 111, 114, 109, 117, 108, 97])).toList))
(zq63 a2 a1 fun r21 r22 r23 =>
k r21 r22 r23)
(k 0 0 false))))))))))))
theorem zt64 {β : Type} (N : Nat) (a0 : ByteArray) (a1 : Int) (a2 : ByteArray) (k : Int → Int → Bool → Option β) : zj64 N a0 a1 a2 k = zb64 N (zj0 N) (zj5 N) (zj24 N) (zj30 N) (zj36 N) (zj51 N) (zj63 N) a0 a1 a2 k := by
  unfold zj64 zb64
  rfl
theorem ve11_0 {β : Type} (N : Nat) (zq0 : (a0 : Int) → (a1 : Int) → (a2 : Int) → (k : Bool → Option β) → Option β) (zq5 : (a0 : ByteArray) → (k : Int → Int → Bool → Option β) → Option β) (zq24 : (a0 : Int) → (a1 : ByteArray) → (k : Int → Int → Bool → Option β) → Option β) (zq30 : (a0 : Int) → (a1 : ByteArray) → (k : List (Int × Int) → Bool → Option β) → Option β) (zq36 : (a0 : Int) → (a1 : List (Int × Int)) → (k : Int → Int → Bool → Option β) → Option β) (zq51 : (a0 : ByteArray) → (a1 : Int) → (k : Int → Int → Bool → Option β) → Option β) (zq63 : (a0 : ByteArray) → (a1 : Int) → (k : Int → Int → Bool → Option β) → Option β)  (a0 : ByteArray) (a1 : Int) (a2 : ByteArray) (K : TV → Option β) : evFn lay (VE11 N zq0 zq5 zq24 zq30 zq36 zq51 zq63) Tryz.f11 [.v (.one (.str a0)), .v (.one (.int .i64 a1)), .v (.one (.str a2))] K = zb64 N zq0 zq5 zq24 zq30 zq36 zq51 zq63 a0 a1 a2 (fun z3 z4 z5 => K (.tup [.agg [.int .i64 z3, .int .i64 z4], .one (.bool z5)])) := by kernel_rfl
theorem e11_0 {β : Type} (N : Nat)  (a0 : ByteArray) (a1 : Int) (a2 : ByteArray) (K : TV → Option β) : evFn lay (E11 N) Tryz.f11 [.v (.one (.str a0)), .v (.one (.int .i64 a1)), .v (.one (.str a2))] K = zj64 N a0 a1 a2 (fun z3 z4 z5 => K (.tup [.agg [.int .i64 z3, .int .i64 z4], .one (.bool z5)])) := (ve11_0 N (zj0 N) (zj5 N) (zj24 N) (zj30 N) (zj36 N) (zj51 N) (zj63 N) a0 a1 a2 K).trans (zt64 N a0 a1 a2 (fun z3 z4 z5 => K (.tup [.agg [.int .i64 z3, .int .i64 z4], .one (.bool z5)]))).symm
theorem o11 {β : Type} (N : Nat) : SpecOK (β := β) inv Tryz.prog 11 (S11 N) := by
  refine spec_of lay_ok mixed (E := E11 N) (specs_loops (specs_cons (o57 N) (specs_cons (o58 N) (specs_cons (o59 N) (specs_cons (o60 N) (specs_cons (o61 N) (specs_cons (o62 N) (specs_cons (o63 N) specs_nil)))))))) muts_nil gs_nil Tryz.func11 (by kernel_rfl) 0 (by kernel_rfl) trivial fun args K r h => ?_
  unfold S11 VS11 at h
  split at h
  · exact (e11_0 N _ _ _ _).trans h
  · cases h
def VS130 {β : Type} (N : Nat) (zq65 : (a0 : Int) → (c0 : ByteArray) → (k : Bool → Option β) → Option β) : Rv.Spec β := fun args K => match args with
  | [.v (.one (.int .i64 a0)), .v (.one (.cref [.str c0] 0))] => zq65 a0 c0 (fun z1 => K (.v (.one (.bool z1))))
  | _ => none
def S130 {β : Type} (N : Nat) : Rv.Spec β := VS130 N (zj65 N)
def VE130 {β : Type} (N : Nat) : Env β := ⟨[], [], [], [], ⟨[], [], [], []⟩⟩
def E130 {β : Type} (N : Nat) : Env β := VE130 N
def zb65 {β : Type} (N : Nat) (a0 : Int) (c0 : ByteArray) (k : Bool → Option β) : Option β :=
(gd ((decide (0 ≤ a0)))
((gd ((decide (a0 < (c0.size : Int))))
(k (((bt c0 a0) == 49))))))
theorem zt65 {β : Type} (N : Nat) (a0 : Int) (c0 : ByteArray) (k : Bool → Option β) : zj65 N a0 c0 k = zb65 N a0 c0 k := by
  unfold zj65 zb65
  rfl
theorem ve130_0 {β : Type} (N : Nat)  (a0 : Int) (c0 : ByteArray) (K : TV → Option β) : evFn lay (VE130 N) Tryz.f130 [.v (.one (.int .i64 a0)), .v (.one (.cref [.str c0] 0))] K = zb65 N a0 c0 (fun z1 => K (.v (.one (.bool z1)))) := by kernel_rfl
theorem e130_0 {β : Type} (N : Nat)  (a0 : Int) (c0 : ByteArray) (K : TV → Option β) : evFn lay (E130 N) Tryz.f130 [.v (.one (.int .i64 a0)), .v (.one (.cref [.str c0] 0))] K = zj65 N a0 c0 (fun z1 => K (.v (.one (.bool z1)))) := (ve130_0 N a0 c0 K).trans (zt65 N a0 c0 (fun z1 => K (.v (.one (.bool z1))))).symm
theorem o130 {β : Type} (N : Nat) : SpecOK (β := β) inv Tryz.prog 130 (S130 N) := by
  refine spec_of lay_ok mixed (E := E130 N) (specs_loops specs_nil) muts_nil gs_nil Tryz.func130 (by kernel_rfl) 0 (by kernel_rfl) trivial fun args K r h => ?_
  unfold S130 VS130 at h
  split at h
  · exact (e130_0 N _ _ _).trans h
  · cases h
def VS100 {β : Type} (N : Nat) (zq66 : (a0 : Int) → (a1 : Int) → (k : Int → Option β) → Option β) : Rv.Spec β := fun args K => match args with
  | [.v (.agg [.int .i64 a0, .int .i64 a1])] => zq66 a0 a1 (fun z2 => K (.v (.one (.int .i64 z2))))
  | _ => none
def S100 {β : Type} (N : Nat) : Rv.Spec β := VS100 N (zj66 N)
def VE100 {β : Type} (N : Nat) : Env β := ⟨[], [], [], [], ⟨[], [], [], []⟩⟩
def E100 {β : Type} (N : Nat) : Env β := VE100 N
def zb66 {β : Type} (N : Nat) (a0 : Int) (a1 : Int) (k : Int → Option β) : Option β :=
(gd ((decide (0 ≤ a0)))
(k ((shlI .i64 1 a0))))
theorem zt66 {β : Type} (N : Nat) (a0 : Int) (a1 : Int) (k : Int → Option β) : zj66 N a0 a1 k = zb66 N a0 a1 k := by
  unfold zj66 zb66
  rfl
theorem ve100_0 {β : Type} (N : Nat)  (a0 : Int) (a1 : Int) (K : TV → Option β) : evFn lay (VE100 N) Tryz.f100 [.v (.agg [.int .i64 a0, .int .i64 a1])] K = zb66 N a0 a1 (fun z2 => K (.v (.one (.int .i64 z2)))) := by kernel_rfl
theorem e100_0 {β : Type} (N : Nat)  (a0 : Int) (a1 : Int) (K : TV → Option β) : evFn lay (E100 N) Tryz.f100 [.v (.agg [.int .i64 a0, .int .i64 a1])] K = zj66 N a0 a1 (fun z2 => K (.v (.one (.int .i64 z2)))) := (ve100_0 N a0 a1 K).trans (zt66 N a0 a1 (fun z2 => K (.v (.one (.int .i64 z2))))).symm
theorem o100 {β : Type} (N : Nat) : SpecOK (β := β) inv Tryz.prog 100 (S100 N) := by
  refine spec_of lay_ok mixed (E := E100 N) (specs_loops specs_nil) muts_nil gs_nil Tryz.func100 (by kernel_rfl) 0 (by kernel_rfl) trivial fun args K r h => ?_
  unfold S100 VS100 at h
  split at h
  · exact (e100_0 N _ _ _).trans h
  · cases h
def VS103 {β : Type} (N : Nat) (zq67 : (a0 : Int) → (a1 : Int) → (a2 : Int) → (k : Int → Option β) → Option β) : Rv.Spec β := fun args K => match args with
  | [.v (.agg [.int .i64 a0, .int .i64 a1]), .v (.one (.int .i64 a2))] => zq67 a0 a1 a2 (fun z3 => K (.v (.one (.int .i64 z3))))
  | _ => none
def S103 {β : Type} (N : Nat) : Rv.Spec β := VS103 N (zj67 N)
def VE103 {β : Type} (N : Nat) : Env β := ⟨[], [], [], [], ⟨[], [], [], []⟩⟩
def E103 {β : Type} (N : Nat) : Env β := VE103 N
def zb67 {β : Type} (N : Nat) (a0 : Int) (a1 : Int) (a2 : Int) (k : Int → Option β) : Option β :=
(gd ((decide (0 ≤ a2)))
(k ((bits .and .i64 (shrI .i64 a1 a2) 1))))
theorem zt67 {β : Type} (N : Nat) (a0 : Int) (a1 : Int) (a2 : Int) (k : Int → Option β) : zj67 N a0 a1 a2 k = zb67 N a0 a1 a2 k := by
  unfold zj67 zb67
  rfl
theorem ve103_0 {β : Type} (N : Nat)  (a0 : Int) (a1 : Int) (a2 : Int) (K : TV → Option β) : evFn lay (VE103 N) Tryz.f103 [.v (.agg [.int .i64 a0, .int .i64 a1]), .v (.one (.int .i64 a2))] K = zb67 N a0 a1 a2 (fun z3 => K (.v (.one (.int .i64 z3)))) := by kernel_rfl
theorem e103_0 {β : Type} (N : Nat)  (a0 : Int) (a1 : Int) (a2 : Int) (K : TV → Option β) : evFn lay (E103 N) Tryz.f103 [.v (.agg [.int .i64 a0, .int .i64 a1]), .v (.one (.int .i64 a2))] K = zj67 N a0 a1 a2 (fun z3 => K (.v (.one (.int .i64 z3)))) := (ve103_0 N a0 a1 a2 K).trans (zt67 N a0 a1 a2 (fun z3 => K (.v (.one (.int .i64 z3))))).symm
theorem o103 {β : Type} (N : Nat) : SpecOK (β := β) inv Tryz.prog 103 (S103 N) := by
  refine spec_of lay_ok mixed (E := E103 N) (specs_loops specs_nil) muts_nil gs_nil Tryz.func103 (by kernel_rfl) 0 (by kernel_rfl) trivial fun args K r h => ?_
  unfold S103 VS103 at h
  split at h
  · exact (e103_0 N _ _ _ _).trans h
  · cases h
def VS189 {β : Type} (N : Nat) (zq70 : (a0 : Int) → (c0 : Int) → (c1 : Int) → (k : Bool → Option β) → Option β) : Rv.Spec β := fun args K => match args with
  | [.v (.one (.int .i64 a0)), .v (.one (.cref [.int .i64 c0, .int .i64 c1] 0))] => zq70 a0 c0 c1 (fun z1 => K (.v (.one (.bool z1))))
  | _ => none
def S189 {β : Type} (N : Nat) : Rv.Spec β := VS189 N (zj70 N)
def h189_0_0  (v0 : Int) (v1 : Int) (v2 : Int) (v3 : Int) (v4 : Int) (v5 : Int) : St := ⟨.v (.one (.int .i64 v0)) :: .v (.one (.cref [.int .i64 v1, .int .i64 v2] 0)) :: tund :: tund :: .v (.one (.int .i64 v3)) :: tund :: tund :: .v (.one (.int .i64 v4)) :: .v (.one (.int .i64 v5)) :: tund :: tund :: tund :: tund :: tund :: tund :: tund :: tund :: tund :: tund :: tund :: tund :: tund :: tund :: [], []⟩
def x189_0_0_k0  (y0 : Int) : St := ⟨tund :: tund :: tund :: tund :: .v (.one (.int .i64 y0)) :: tund :: tund :: tund :: tund :: tund :: tund :: tund :: tund :: tund :: tund :: tund :: tund :: tund :: tund :: tund :: tund :: tund :: tund :: [], []⟩
theorem fl189_0_0 (s : St) : refSt (h189_0_0 0 0 0 0 0 0) s = h189_0_0 (intS (oneA (vT (nx tund s.tmps 0)))) (intF (nx .no (crefS (oneA (vT (nx tund s.tmps 1)))) 0)) (intF (nx .no (crefS (oneA (vT (nx tund s.tmps 1)))) 1)) (intS (oneA (vT (nx tund s.tmps 4)))) (intS (oneA (vT (nx tund s.tmps 7)))) (intS (oneA (vT (nx tund s.tmps 8)))) := by kernel_rfl
def VLS189_0 {β : Type} (N : Nat) (zq69 : Nat → Int → Int → Int → Int → Int → Int → (Int → Option β) → Option β) : LSpec β := fun s K => cond (shpSt (h189_0_0 0 0 0 0 0 0) s) ((fun (v0 : Int) (v1 : Int) (v2 : Int) (v3 : Int) (v4 : Int) (v5 : Int) => zq69  N v0 v1 v2 v3 v4 v5 (fun y0 => K (.exit 0) (x189_0_0_k0  y0))) (intS (oneA (vT (nx tund s.tmps 0)))) (intF (nx .no (crefS (oneA (vT (nx tund s.tmps 1)))) 0)) (intF (nx .no (crefS (oneA (vT (nx tund s.tmps 1)))) 1)) (intS (oneA (vT (nx tund s.tmps 4)))) (intS (oneA (vT (nx tund s.tmps 7)))) (intS (oneA (vT (nx tund s.tmps 8))))) (none)
def LS189_0 {β : Type} (N : Nat) : LSpec β := VLS189_0 N (zj69 N)
def VE189 {β : Type} (N : Nat) (zq66 : (a0 : Int) → (a1 : Int) → (k : Int → Option β) → Option β) (zq67 : (a0 : Int) → (a1 : Int) → (a2 : Int) → (k : Int → Option β) → Option β) (zq69 : Nat → Int → Int → Int → Int → Int → Int → (Int → Option β) → Option β) : Env β := ⟨[(100, VS100 N zq66), (103, VS103 N zq67)], [], [(0, VLS189_0 N zq69)], [], ⟨[], [], [], []⟩⟩
def E189 {β : Type} (N : Nat) : Env β := VE189 N (zj66 N) (zj67 N) (zj69 N)
def zb68 {β : Type} (N : Nat) (zq67 : (a0 : Int) → (a1 : Int) → (a2 : Int) → (k : Int → Option β) → Option β)  (v0 : Int) (v1 : Int) (v2 : Int) (v3 : Int) (v4 : Int) (v5 : Int) (rec_ : Int → Int → Int → Int → Int → Int → Option β) (k0 : Int → Option β) : Option β :=
(cond ((decide (v5 < v4)))
((cond (((bits .andNot .i64 v5 v0) == 0))
(zq67 v1 v2 v5 fun r3 =>
rec_ v0 v1 v2 ((bits .xor .i64 v3 r3)) v4 ((w64 (v5 + 1))))
(rec_ v0 v1 v2 v3 v4 ((w64 (v5 + 1))))))
(k0 v3))
theorem zt68 {β : Type} (N : Nat)  (v0 : Int) (v1 : Int) (v2 : Int) (v3 : Int) (v4 : Int) (v5 : Int) (rec_ : Int → Int → Int → Int → Int → Int → Option β) (k0 : Int → Option β) : zj68 N v0 v1 v2 v3 v4 v5 rec_ k0 = zb68 N (zj67 N) v0 v1 v2 v3 v4 v5 rec_ k0 := by
  unfold zj68 zb68
  rfl
theorem vst189_0_0 {β : Type} (N : Nat) (zq66 : (a0 : Int) → (a1 : Int) → (k : Int → Option β) → Option β) (zq67 : (a0 : Int) → (a1 : Int) → (a2 : Int) → (k : Int → Option β) → Option β) (zq69 : Nat → Int → Int → Int → Int → Int → Int → (Int → Option β) → Option β)  (v0 : Int) (v1 : Int) (v2 : Int) (v3 : Int) (v4 : Int) (v5 : Int) (rec_ : St → Option β) (K : Exit → St → Option β) :
    ev lay (VE189 N zq66 zq67 zq69) (retMask Tryz.f189) (lp Tryz.f189 0).body (lp Tryz.f189 0).ex ((lp Tryz.f189 0).lv (retMask Tryz.f189)) (h189_0_0  v0 v1 v2 v3 v4 v5) (nextR (fun s' => rec_ (s'.tidy ((lp Tryz.f189 0).lv (retMask Tryz.f189)))) K) = zb68 N zq67  v0 v1 v2 v3 v4 v5 (fun v0 v1 v2 v3 v4 v5 => rec_ (h189_0_0  v0 v1 v2 v3 v4 v5)) (fun y0 => K (.exit 0) (x189_0_0_k0  y0)) := by kernel_rfl
theorem st189_0_0 {β : Type} (N : Nat)  (v0 : Int) (v1 : Int) (v2 : Int) (v3 : Int) (v4 : Int) (v5 : Int) (rec_ : St → Option β) (K : Exit → St → Option β) :
    ev lay (E189 N) (retMask Tryz.f189) (lp Tryz.f189 0).body (lp Tryz.f189 0).ex ((lp Tryz.f189 0).lv (retMask Tryz.f189)) (h189_0_0  v0 v1 v2 v3 v4 v5) (nextR (fun s' => rec_ (s'.tidy ((lp Tryz.f189 0).lv (retMask Tryz.f189)))) K) = zj68 N  v0 v1 v2 v3 v4 v5 (fun v0 v1 v2 v3 v4 v5 => rec_ (h189_0_0  v0 v1 v2 v3 v4 v5)) (fun y0 => K (.exit 0) (x189_0_0_k0  y0)) := (vst189_0_0 N (zj66 N) (zj67 N) (zj69 N) v0 v1 v2 v3 v4 v5 rec_ K).trans (zt68 N  v0 v1 v2 v3 v4 v5 (fun v0 v1 v2 v3 v4 v5 => rec_ (h189_0_0  v0 v1 v2 v3 v4 v5)) (fun y0 => K (.exit 0) (x189_0_0_k0  y0))).symm
theorem ro189_0_0 {β : Type} (N : Nat)  (K : Exit → St → Option β) : ∀ (F : Nat) (v0 : Int) (v1 : Int) (v2 : Int) (v3 : Int) (v4 : Int) (v5 : Int), (lp Tryz.f189 0).rounds lay (E189 N) (retMask Tryz.f189) F (h189_0_0  v0 v1 v2 v3 v4 v5) K = zj69 N  F v0 v1 v2 v3 v4 v5 (fun y0 => K (.exit 0) (x189_0_0_k0  y0)) := by
  intro F
  induction F with
  | zero => intros; rfl
  | succ F ih =>
    intros
    rw [rounds_next]
    refine (st189_0_0 N  _ _ _ _ _ _ (fun s => (lp Tryz.f189 0).rounds lay (E189 N) (retMask Tryz.f189) F s K) K).trans ?_
    simp only [ih]
    rfl
theorem lk189_0 {β : Type} (N : Nat) : lookL (E189 (β := β) N).loops (lp Tryz.f189 0).id = LS189_0 N := by kernel_rfl
theorem rk189_0 {β : Type} (N : Nat) : RoundsOK lay (E189 (β := β) N) (retMask Tryz.f189) (lp Tryz.f189 0) := by
  intro s K r h
  rw [lk189_0] at h
  unfold LS189_0 VLS189_0 at h
  cases hb : shpSt (h189_0_0 0 0 0 0 0 0) s with
  | true =>
    rw [hb, cond_true] at h
    exact ⟨N, by rw [← shpSt_ref hb, fl189_0_0 s]; exact (ro189_0_0 N  K N (intS (oneA (vT (nx tund s.tmps 0)))) (intF (nx .no (crefS (oneA (vT (nx tund s.tmps 1)))) 0)) (intF (nx .no (crefS (oneA (vT (nx tund s.tmps 1)))) 1)) (intS (oneA (vT (nx tund s.tmps 4)))) (intS (oneA (vT (nx tund s.tmps 7)))) (intS (oneA (vT (nx tund s.tmps 8))))).trans h⟩
  | false =>
  rw [hb, cond_false] at h
  clear hb
  cases h
def zb70 {β : Type} (N : Nat) (zq66 : (a0 : Int) → (a1 : Int) → (k : Int → Option β) → Option β) (zq69 : Nat → Int → Int → Int → Int → Int → Int → (Int → Option β) → Option β) (a0 : Int) (c0 : Int) (c1 : Int) (k : Bool → Option β) : Option β :=
zq66 c0 c1 fun r2 =>
zq69  N a0 c0 c1 0 r2 0 (fun e4_0 =>
k ((e4_0 == 1)))
theorem zt70 {β : Type} (N : Nat) (a0 : Int) (c0 : Int) (c1 : Int) (k : Bool → Option β) : zj70 N a0 c0 c1 k = zb70 N (zj66 N) (zj69 N) a0 c0 c1 k := by
  unfold zj70 zb70
  rfl
theorem ve189_0 {β : Type} (N : Nat) (zq66 : (a0 : Int) → (a1 : Int) → (k : Int → Option β) → Option β) (zq67 : (a0 : Int) → (a1 : Int) → (a2 : Int) → (k : Int → Option β) → Option β) (zq69 : Nat → Int → Int → Int → Int → Int → Int → (Int → Option β) → Option β)  (a0 : Int) (c0 : Int) (c1 : Int) (K : TV → Option β) : evFn lay (VE189 N zq66 zq67 zq69) Tryz.f189 [.v (.one (.int .i64 a0)), .v (.one (.cref [.int .i64 c0, .int .i64 c1] 0))] K = zb70 N zq66 zq69 a0 c0 c1 (fun z1 => K (.v (.one (.bool z1)))) := by kernel_rfl
theorem e189_0 {β : Type} (N : Nat)  (a0 : Int) (c0 : Int) (c1 : Int) (K : TV → Option β) : evFn lay (E189 N) Tryz.f189 [.v (.one (.int .i64 a0)), .v (.one (.cref [.int .i64 c0, .int .i64 c1] 0))] K = zj70 N a0 c0 c1 (fun z1 => K (.v (.one (.bool z1)))) := (ve189_0 N (zj66 N) (zj67 N) (zj69 N) a0 c0 c1 K).trans (zt70 N a0 c0 c1 (fun z1 => K (.v (.one (.bool z1))))).symm
theorem o189 {β : Type} (N : Nat) : SpecOK (β := β) inv Tryz.prog 189 (S189 N) := by
  refine spec_of lay_ok mixed (E := E189 N) (specs_loops (specs_cons (o100 N) (specs_cons (o103 N) specs_nil))) muts_nil gs_nil Tryz.func189 (by kernel_rfl) 1 (by kernel_rfl) ⟨trivial, rk189_0 N⟩ fun args K r h => ?_
  unfold S189 VS189 at h
  split at h
  · exact (e189_0 N _ _ _ _).trans h
  · cases h
def VS99 {β : Type} (N : Nat) (zq71 : (a0 : Int) → (k : Bool → Option β) → Option β) : Rv.Spec β := fun args K => match args with
  | [.v (.one (.int .i64 a0))] => zq71 a0 (fun z1 => K (.v (.one (.bool z1))))
  | _ => none
def S99 {β : Type} (N : Nat) : Rv.Spec β := VS99 N (zj71 N)
def VE99 {β : Type} (N : Nat) : Env β := ⟨[], [], [], [], ⟨[], [], [], []⟩⟩
def E99 {β : Type} (N : Nat) : Env β := VE99 N
def zb71 {β : Type} (N : Nat) (a0 : Int) (k : Bool → Option β) : Option β :=
(cond ((decide (a0 ≥ 0)))
(k ((decide (a0 ≤ 5))))
(k false))
theorem zt71 {β : Type} (N : Nat) (a0 : Int) (k : Bool → Option β) : zj71 N a0 k = zb71 N a0 k := by
  unfold zj71 zb71
  rfl
theorem ve99_0 {β : Type} (N : Nat)  (a0 : Int) (K : TV → Option β) : evFn lay (VE99 N) Tryz.f99 [.v (.one (.int .i64 a0))] K = zb71 N a0 (fun z1 => K (.v (.one (.bool z1)))) := by kernel_rfl
theorem e99_0 {β : Type} (N : Nat)  (a0 : Int) (K : TV → Option β) : evFn lay (E99 N) Tryz.f99 [.v (.one (.int .i64 a0))] K = zj71 N a0 (fun z1 => K (.v (.one (.bool z1)))) := (ve99_0 N a0 K).trans (zt71 N a0 (fun z1 => K (.v (.one (.bool z1))))).symm
theorem o99 {β : Type} (N : Nat) : SpecOK (β := β) inv Tryz.prog 99 (S99 N) := by
  refine spec_of lay_ok mixed (E := E99 N) (specs_loops specs_nil) muts_nil gs_nil Tryz.func99 (by kernel_rfl) 0 (by kernel_rfl) trivial fun args K r h => ?_
  unfold S99 VS99 at h
  split at h
  · exact (e99_0 N _ _).trans h
  · cases h
def VS233 {β : Type} (N : Nat) (zq72 : (a0 : Int) → (a1 : Int) → (k : Bool → Option β) → Option β) : Rv.Spec β := fun args K => match args with
  | [.v (.one (.int .i64 a0)), .v (.one (.int .i64 a1))] => zq72 a0 a1 (fun z2 => K (.v (.one (.bool z2))))
  | _ => none
def S233 {β : Type} (N : Nat) : Rv.Spec β := VS233 N (zj72 N)
def VE233 {β : Type} (N : Nat) : Env β := ⟨[], [], [], [], ⟨[], [], [], []⟩⟩
def E233 {β : Type} (N : Nat) : Env β := VE233 N
def zb72 {β : Type} (N : Nat) (a0 : Int) (a1 : Int) (k : Bool → Option β) : Option β :=
(cond ((decide (a1 ≥ 0)))
((gd ((decide (0 ≤ a0)))
(k ((decide (a1 < (shlI .i64 1 a0)))))))
(k false))
theorem zt72 {β : Type} (N : Nat) (a0 : Int) (a1 : Int) (k : Bool → Option β) : zj72 N a0 a1 k = zb72 N a0 a1 k := by
  unfold zj72 zb72
  rfl
theorem ve233_0 {β : Type} (N : Nat)  (a0 : Int) (a1 : Int) (K : TV → Option β) : evFn lay (VE233 N) Tryz.f233 [.v (.one (.int .i64 a0)), .v (.one (.int .i64 a1))] K = zb72 N a0 a1 (fun z2 => K (.v (.one (.bool z2)))) := by kernel_rfl
theorem e233_0 {β : Type} (N : Nat)  (a0 : Int) (a1 : Int) (K : TV → Option β) : evFn lay (E233 N) Tryz.f233 [.v (.one (.int .i64 a0)), .v (.one (.int .i64 a1))] K = zj72 N a0 a1 (fun z2 => K (.v (.one (.bool z2)))) := (ve233_0 N a0 a1 K).trans (zt72 N a0 a1 (fun z2 => K (.v (.one (.bool z2))))).symm
theorem o233 {β : Type} (N : Nat) : SpecOK (β := β) inv Tryz.prog 233 (S233 N) := by
  refine spec_of lay_ok mixed (E := E233 N) (specs_loops specs_nil) muts_nil gs_nil Tryz.func233 (by kernel_rfl) 0 (by kernel_rfl) trivial fun args K r h => ?_
  unfold S233 VS233 at h
  split at h
  · exact (e233_0 N _ _ _).trans h
  · cases h
def VS192 {β : Type} (N : Nat) (zq73 : (a0 : Int) → (a1 : Int) → (a2 : Int) → (k : Bool → Option β) → Option β) : Rv.Spec β := fun args K => match args with
  | [.v (.one (.int .i64 a0)), .v (.agg [.int .i64 a1, .int .i64 a2])] => zq73 a0 a1 a2 (fun z3 => K (.v (.one (.bool z3))))
  | _ => none
def S192 {β : Type} (N : Nat) : Rv.Spec β := VS192 N (zj73 N)
def VE192 {β : Type} (N : Nat) (zq71 : (a0 : Int) → (k : Bool → Option β) → Option β) (zq72 : (a0 : Int) → (a1 : Int) → (k : Bool → Option β) → Option β) : Env β := ⟨[(99, VS99 N zq71), (233, VS233 N zq72)], [], [], [], ⟨[], [], [], []⟩⟩
def E192 {β : Type} (N : Nat) : Env β := VE192 N (zj71 N) (zj72 N)
def zb73 {β : Type} (N : Nat) (zq71 : (a0 : Int) → (k : Bool → Option β) → Option β) (zq72 : (a0 : Int) → (a1 : Int) → (k : Bool → Option β) → Option β) (a0 : Int) (a1 : Int) (a2 : Int) (k : Bool → Option β) : Option β :=
zq71 a0 fun r4 =>
(cond r4
(zq72 a0 a1 fun r5 =>
(cond r5
((cond ((decide (a2 ≥ 0)))
(k (((bits .andNot .i64 a2 a1) == 0)))
(k false)))
(k false)))
(k false))
theorem zt73 {β : Type} (N : Nat) (a0 : Int) (a1 : Int) (a2 : Int) (k : Bool → Option β) : zj73 N a0 a1 a2 k = zb73 N (zj71 N) (zj72 N) a0 a1 a2 k := by
  unfold zj73 zb73
  rfl
theorem ve192_0 {β : Type} (N : Nat) (zq71 : (a0 : Int) → (k : Bool → Option β) → Option β) (zq72 : (a0 : Int) → (a1 : Int) → (k : Bool → Option β) → Option β)  (a0 : Int) (a1 : Int) (a2 : Int) (K : TV → Option β) : evFn lay (VE192 N zq71 zq72) Tryz.f192 [.v (.one (.int .i64 a0)), .v (.agg [.int .i64 a1, .int .i64 a2])] K = zb73 N zq71 zq72 a0 a1 a2 (fun z3 => K (.v (.one (.bool z3)))) := by kernel_rfl
theorem e192_0 {β : Type} (N : Nat)  (a0 : Int) (a1 : Int) (a2 : Int) (K : TV → Option β) : evFn lay (E192 N) Tryz.f192 [.v (.one (.int .i64 a0)), .v (.agg [.int .i64 a1, .int .i64 a2])] K = zj73 N a0 a1 a2 (fun z3 => K (.v (.one (.bool z3)))) := (ve192_0 N (zj71 N) (zj72 N) a0 a1 a2 K).trans (zt73 N a0 a1 a2 (fun z3 => K (.v (.one (.bool z3))))).symm
theorem o192 {β : Type} (N : Nat) : SpecOK (β := β) inv Tryz.prog 192 (S192 N) := by
  refine spec_of lay_ok mixed (E := E192 N) (specs_loops (specs_cons (o99 N) (specs_cons (o233 N) specs_nil))) muts_nil gs_nil Tryz.func192 (by kernel_rfl) 0 (by kernel_rfl) trivial fun args K r h => ?_
  unfold S192 VS192 at h
  split at h
  · exact (e192_0 N _ _ _ _).trans h
  · cases h
def VS191 {β : Type} (N : Nat) (zq74 : (a0 : Int) → (a1 : Int) → (c0 : Int) → (k : Bool → Option β) → Option β) : Rv.Spec β := fun args K => match args with
  | [.v (.agg [.int .i64 a0, .int .i64 a1]), .v (.one (.cref [.int .i64 c0] 0))] => zq74 a0 a1 c0 (fun z2 => K (.v (.one (.bool z2))))
  | _ => none
def S191 {β : Type} (N : Nat) : Rv.Spec β := VS191 N (zj74 N)
def VE191 {β : Type} (N : Nat) (zq73 : (a0 : Int) → (a1 : Int) → (a2 : Int) → (k : Bool → Option β) → Option β) : Env β := ⟨[(192, VS192 N zq73)], [], [], [], ⟨[], [], [], []⟩⟩
def E191 {β : Type} (N : Nat) : Env β := VE191 N (zj73 N)
def zb74 {β : Type} (N : Nat) (zq73 : (a0 : Int) → (a1 : Int) → (a2 : Int) → (k : Bool → Option β) → Option β) (a0 : Int) (a1 : Int) (c0 : Int) (k : Bool → Option β) : Option β :=
zq73 c0 a0 a1 fun r3 =>
k (!r3)
theorem zt74 {β : Type} (N : Nat) (a0 : Int) (a1 : Int) (c0 : Int) (k : Bool → Option β) : zj74 N a0 a1 c0 k = zb74 N (zj73 N) a0 a1 c0 k := by
  unfold zj74 zb74
  rfl
theorem ve191_0 {β : Type} (N : Nat) (zq73 : (a0 : Int) → (a1 : Int) → (a2 : Int) → (k : Bool → Option β) → Option β)  (a0 : Int) (a1 : Int) (c0 : Int) (K : TV → Option β) : evFn lay (VE191 N zq73) Tryz.f191 [.v (.agg [.int .i64 a0, .int .i64 a1]), .v (.one (.cref [.int .i64 c0] 0))] K = zb74 N zq73 a0 a1 c0 (fun z2 => K (.v (.one (.bool z2)))) := by kernel_rfl
theorem e191_0 {β : Type} (N : Nat)  (a0 : Int) (a1 : Int) (c0 : Int) (K : TV → Option β) : evFn lay (E191 N) Tryz.f191 [.v (.agg [.int .i64 a0, .int .i64 a1]), .v (.one (.cref [.int .i64 c0] 0))] K = zj74 N a0 a1 c0 (fun z2 => K (.v (.one (.bool z2)))) := (ve191_0 N (zj73 N) a0 a1 c0 K).trans (zt74 N a0 a1 c0 (fun z2 => K (.v (.one (.bool z2))))).symm
theorem o191 {β : Type} (N : Nat) : SpecOK (β := β) inv Tryz.prog 191 (S191 N) := by
  refine spec_of lay_ok mixed (E := E191 N) (specs_loops (specs_cons (o192 N) specs_nil)) muts_nil gs_nil Tryz.func191 (by kernel_rfl) 0 (by kernel_rfl) trivial fun args K r h => ?_
  unfold S191 VS191 at h
  split at h
  · exact (e191_0 N _ _ _ _).trans h
  · cases h
def VS195 {β : Type} (N : Nat) (zq75 : (a0 : Int) → (a1 : Int) → (a2 : Int) → (k : Bool → Option β) → Option β) : Rv.Spec β := fun args K => match args with
  | [.v (.agg [.int .i64 a0, .int .i64 a1]), .v (.one (.int .i64 a2))] => zq75 a0 a1 a2 (fun z3 => K (.v (.one (.bool z3))))
  | _ => none
def S195 {β : Type} (N : Nat) : Rv.Spec β := VS195 N (zj75 N)
def VE195 {β : Type} (N : Nat) : Env β := ⟨[], [], [], [], ⟨[], [], [], []⟩⟩
def E195 {β : Type} (N : Nat) : Env β := VE195 N
def zb75 {β : Type} (N : Nat) (a0 : Int) (a1 : Int) (a2 : Int) (k : Bool → Option β) : Option β :=
k (((bits .and .i64 a2 a0) == a1))
theorem zt75 {β : Type} (N : Nat) (a0 : Int) (a1 : Int) (a2 : Int) (k : Bool → Option β) : zj75 N a0 a1 a2 k = zb75 N a0 a1 a2 k := by
  unfold zj75 zb75
  rfl
theorem ve195_0 {β : Type} (N : Nat)  (a0 : Int) (a1 : Int) (a2 : Int) (K : TV → Option β) : evFn lay (VE195 N) Tryz.f195 [.v (.agg [.int .i64 a0, .int .i64 a1]), .v (.one (.int .i64 a2))] K = zb75 N a0 a1 a2 (fun z3 => K (.v (.one (.bool z3)))) := by kernel_rfl
theorem e195_0 {β : Type} (N : Nat)  (a0 : Int) (a1 : Int) (a2 : Int) (K : TV → Option β) : evFn lay (E195 N) Tryz.f195 [.v (.agg [.int .i64 a0, .int .i64 a1]), .v (.one (.int .i64 a2))] K = zj75 N a0 a1 a2 (fun z3 => K (.v (.one (.bool z3)))) := (ve195_0 N a0 a1 a2 K).trans (zt75 N a0 a1 a2 (fun z3 => K (.v (.one (.bool z3))))).symm
theorem o195 {β : Type} (N : Nat) : SpecOK (β := β) inv Tryz.prog 195 (S195 N) := by
  refine spec_of lay_ok mixed (E := E195 N) (specs_loops specs_nil) muts_nil gs_nil Tryz.func195 (by kernel_rfl) 0 (by kernel_rfl) trivial fun args K r h => ?_
  unfold S195 VS195 at h
  split at h
  · exact (e195_0 N _ _ _ _).trans h
  · cases h
def VS194 {β : Type} (N : Nat) (zq76 : (a0 : Int) → (a1 : Int) → (c0 : Int) → (k : Bool → Option β) → Option β) : Rv.Spec β := fun args K => match args with
  | [.v (.agg [.int .i64 a0, .int .i64 a1]), .v (.one (.cref [.int .i64 c0] 0))] => zq76 a0 a1 c0 (fun z2 => K (.v (.one (.bool z2))))
  | _ => none
def S194 {β : Type} (N : Nat) : Rv.Spec β := VS194 N (zj76 N)
def VE194 {β : Type} (N : Nat) (zq75 : (a0 : Int) → (a1 : Int) → (a2 : Int) → (k : Bool → Option β) → Option β) : Env β := ⟨[(195, VS195 N zq75)], [], [], [], ⟨[], [], [], []⟩⟩
def E194 {β : Type} (N : Nat) : Env β := VE194 N (zj75 N)
def zb76 {β : Type} (N : Nat) (zq75 : (a0 : Int) → (a1 : Int) → (a2 : Int) → (k : Bool → Option β) → Option β) (a0 : Int) (a1 : Int) (c0 : Int) (k : Bool → Option β) : Option β :=
zq75 a0 a1 c0 fun r3 =>
k r3
theorem zt76 {β : Type} (N : Nat) (a0 : Int) (a1 : Int) (c0 : Int) (k : Bool → Option β) : zj76 N a0 a1 c0 k = zb76 N (zj75 N) a0 a1 c0 k := by
  unfold zj76 zb76
  rfl
theorem ve194_0 {β : Type} (N : Nat) (zq75 : (a0 : Int) → (a1 : Int) → (a2 : Int) → (k : Bool → Option β) → Option β)  (a0 : Int) (a1 : Int) (c0 : Int) (K : TV → Option β) : evFn lay (VE194 N zq75) Tryz.f194 [.v (.agg [.int .i64 a0, .int .i64 a1]), .v (.one (.cref [.int .i64 c0] 0))] K = zb76 N zq75 a0 a1 c0 (fun z2 => K (.v (.one (.bool z2)))) := by kernel_rfl
theorem e194_0 {β : Type} (N : Nat)  (a0 : Int) (a1 : Int) (c0 : Int) (K : TV → Option β) : evFn lay (E194 N) Tryz.f194 [.v (.agg [.int .i64 a0, .int .i64 a1]), .v (.one (.cref [.int .i64 c0] 0))] K = zj76 N a0 a1 c0 (fun z2 => K (.v (.one (.bool z2)))) := (ve194_0 N (zj75 N) a0 a1 c0 K).trans (zt76 N a0 a1 c0 (fun z2 => K (.v (.one (.bool z2))))).symm
theorem o194 {β : Type} (N : Nat) : SpecOK (β := β) inv Tryz.prog 194 (S194 N) := by
  refine spec_of lay_ok mixed (E := E194 N) (specs_loops (specs_cons (o195 N) specs_nil)) muts_nil gs_nil Tryz.func194 (by kernel_rfl) 0 (by kernel_rfl) trivial fun args K r h => ?_
  unfold S194 VS194 at h
  split at h
  · exact (e194_0 N _ _ _ _).trans h
  · cases h
end Go.Proofs.YtemihnclhcobnaaGreatDoor
