/- The functions that the claims reach answer as their texts do. -/
import Derived.Test.YtddflpokemgnmaaDoorE9
namespace Go.Proofs.YtddflpokemgnmaaDoor
open Go.Rv
set_option maxRecDepth 100000
set_option maxHeartbeats 2000000
set_option linter.unusedVariables false
variable {β : Type}
def VS3 (N : Nat) (zq158 : (a0 : List Int) → (k : Bool → O β) → O β) : Rv.Spec β := fun args K => match args with
  | [.v (.one (.sl 5 (.ints .u8 a0)))] => zq158 a0 (fun z1 => K (.v (.one (.bool z1))))
  | _ => none
def S3 (N : Nat) : Rv.Spec β := VS3 N (zj158 N)
def h3_0_0  (v0 : List Int) (v1 : Int) (v2 : ByteArray) (v3 : Int) (v4 : Int) (v5 : Int) (v6 : Int) : St := ⟨.v (.one (.sl 5 (.ints .u8 v0))) :: tund :: tund :: .v (.one (.ptr 0 0)) :: .v (.one (.int .i64 v1)) :: tund :: tund :: .v (.one (.str v2)) :: tund :: .v (.one (.int .i64 v3)) :: .v (.one (.int .i64 v4)) :: tund :: tund :: tund :: tund :: tund :: tund :: tund :: tund :: tund :: tund :: tund :: tund :: tund :: tund :: tund :: tund :: tund :: tund :: tund :: tund :: tund :: tund :: tund :: tund :: tund :: tund :: tund :: tund :: tund :: tund :: tund :: tund :: tund :: tund :: tund :: tund :: tund :: tund :: tund :: tund :: tund :: tund :: tund :: tund :: tund :: tund :: tund :: tund :: tund :: tund :: tund :: tund :: tund :: tund :: tund :: tund :: tund :: tund :: tund :: tund :: tund :: tund :: tund :: tund :: tund :: tund :: tund :: tund :: tund :: tund :: tund :: tund :: tund :: tund :: tund :: tund :: tund :: tund :: tund :: tund :: tund :: tund :: tund :: tund :: tund :: tund :: tund :: tund :: tund :: tund :: tund :: tund :: tund :: tund :: tund :: tund :: tund :: tund :: tund :: tund :: tund :: tund :: tund :: tund :: tund :: tund :: tund :: tund :: tund :: tund :: tund :: tund :: tund :: tund :: tund :: tund :: tund :: tund :: tund :: tund :: tund :: tund :: tund :: tund :: tund :: tund :: tund :: tund :: tund :: tund :: tund :: tund :: tund :: tund :: tund :: tund :: tund :: tund :: tund :: tund :: tund :: tund :: tund :: tund :: tund :: tund :: tund :: tund :: tund :: tund :: tund :: tund :: tund :: tund :: tund :: tund :: tund :: tund :: tund :: tund :: tund :: tund :: tund :: tund :: tund :: tund :: tund :: tund :: tund :: tund :: tund :: tund :: tund :: tund :: tund :: tund :: tund :: tund :: tund :: tund :: tund :: tund :: tund :: tund :: tund :: tund :: tund :: tund :: tund :: tund :: tund :: tund :: tund :: tund :: tund :: tund :: tund :: tund :: tund :: tund :: tund :: tund :: tund :: tund :: tund :: [], [.cells 25 [.int .i64 v5, .int .i64 v6]]⟩
def x3_0_0_k0  (y0 : Bool) : St := ⟨tund :: tund :: .v (.one (.bool y0)) :: tund :: tund :: tund :: tund :: tund :: tund :: tund :: tund :: tund :: tund :: tund :: tund :: tund :: tund :: tund :: tund :: tund :: tund :: tund :: tund :: tund :: tund :: tund :: tund :: tund :: tund :: tund :: tund :: tund :: tund :: tund :: tund :: tund :: tund :: tund :: tund :: tund :: tund :: tund :: tund :: tund :: tund :: tund :: tund :: tund :: tund :: tund :: tund :: tund :: tund :: tund :: tund :: tund :: tund :: tund :: tund :: tund :: tund :: tund :: tund :: tund :: tund :: tund :: tund :: tund :: tund :: tund :: tund :: tund :: tund :: tund :: tund :: tund :: tund :: tund :: tund :: tund :: tund :: tund :: tund :: tund :: tund :: tund :: tund :: tund :: tund :: tund :: tund :: tund :: tund :: tund :: tund :: tund :: tund :: tund :: tund :: tund :: tund :: tund :: tund :: tund :: tund :: tund :: tund :: tund :: tund :: tund :: tund :: tund :: tund :: tund :: tund :: tund :: tund :: tund :: tund :: tund :: tund :: tund :: tund :: tund :: tund :: tund :: tund :: tund :: tund :: tund :: tund :: tund :: tund :: tund :: tund :: tund :: tund :: tund :: tund :: tund :: tund :: tund :: tund :: tund :: tund :: tund :: tund :: tund :: tund :: tund :: tund :: tund :: tund :: tund :: tund :: tund :: tund :: tund :: tund :: tund :: tund :: tund :: tund :: tund :: tund :: tund :: tund :: tund :: tund :: tund :: tund :: tund :: tund :: tund :: tund :: tund :: tund :: tund :: tund :: tund :: tund :: tund :: tund :: tund :: tund :: tund :: tund :: tund :: tund :: tund :: tund :: tund :: tund :: tund :: tund :: tund :: tund :: tund :: tund :: tund :: tund :: tund :: tund :: tund :: tund :: tund :: tund :: tund :: tund :: tund :: tund :: tund :: tund :: tund :: tund :: tund :: [], []⟩
def x3_0_0_k1  (y0 : List Int) (y1 : Int) (y2 : ByteArray) (y3 : Int) (y4 : Int) (y5 : Int) : St := ⟨.v (.one (.sl 5 (.ints .u8 y0))) :: tund :: tund :: .v (.one (.ptr 0 0)) :: .v (.one (.int .i64 y1)) :: tund :: tund :: .v (.one (.str y2)) :: tund :: .v (.one (.int .i64 y3)) :: tund :: tund :: tund :: tund :: tund :: tund :: tund :: tund :: tund :: tund :: tund :: tund :: tund :: tund :: tund :: tund :: tund :: tund :: tund :: tund :: tund :: tund :: tund :: tund :: tund :: tund :: tund :: tund :: tund :: tund :: tund :: tund :: tund :: tund :: tund :: tund :: tund :: tund :: tund :: tund :: tund :: tund :: tund :: tund :: tund :: tund :: tund :: tund :: tund :: tund :: tund :: tund :: tund :: tund :: tund :: tund :: tund :: tund :: tund :: tund :: tund :: tund :: tund :: tund :: tund :: tund :: tund :: tund :: tund :: tund :: tund :: tund :: tund :: tund :: tund :: tund :: tund :: tund :: tund :: tund :: tund :: tund :: tund :: tund :: tund :: tund :: tund :: tund :: tund :: tund :: tund :: tund :: tund :: tund :: tund :: tund :: tund :: tund :: tund :: tund :: tund :: tund :: tund :: tund :: tund :: tund :: tund :: tund :: tund :: tund :: tund :: tund :: tund :: tund :: tund :: tund :: tund :: tund :: tund :: tund :: tund :: tund :: tund :: tund :: tund :: tund :: tund :: tund :: tund :: tund :: tund :: tund :: tund :: tund :: tund :: tund :: tund :: tund :: tund :: tund :: tund :: tund :: tund :: tund :: tund :: tund :: tund :: tund :: tund :: tund :: tund :: tund :: tund :: tund :: tund :: tund :: tund :: tund :: tund :: tund :: tund :: tund :: tund :: tund :: tund :: tund :: tund :: tund :: tund :: tund :: tund :: tund :: tund :: tund :: tund :: tund :: tund :: tund :: tund :: tund :: tund :: tund :: tund :: tund :: tund :: tund :: tund :: tund :: tund :: tund :: tund :: tund :: tund :: tund :: tund :: tund :: tund :: tund :: tund :: tund :: tund :: tund :: tund :: tund :: tund :: tund :: [], [.cells 25 [.int .i64 y4, .int .i64 y5]]⟩
theorem fl3_0_0 (s : St) : refSt (h3_0_0 [] 0 ByteArray.empty 0 0 0 0) s = h3_0_0 (rInts (rowV (oneA (vT (nx tund s.tmps 0))))) (intS (oneA (vT (nx tund s.tmps 4)))) (strS (oneA (vT (nx tund s.tmps 7)))) (intS (oneA (vT (nx tund s.tmps 9)))) (intS (oneA (vT (nx tund s.tmps 10)))) (intS (nx .und (cellsB (nx .dead s.blks 0)) 0)) (intS (nx .und (cellsB (nx .dead s.blks 0)) 1)) := by kernel_rfl
def VLS3_0 (N : Nat) (zq157 : Nat → List Int → Int → ByteArray → Int → Int → Int → Int → (Bool → O β) → (List Int → Int → ByteArray → Int → Int → Int → O β) → O β) : LSpec β := fun s K => cond (shpSt (h3_0_0 [] 0 ByteArray.empty 0 0 0 0) s) ((fun (v0 : List Int) (v1 : Int) (v2 : ByteArray) (v3 : Int) (v4 : Int) (v5 : Int) (v6 : Int) => zq157  N v0 v1 v2 v3 v4 v5 v6 (fun y0 => K .ret (x3_0_0_k0  y0)) (fun y0 y1 y2 y3 y4 y5 => K (.exit 0) (x3_0_0_k1  y0 y1 y2 y3 y4 y5))) (rInts (rowV (oneA (vT (nx tund s.tmps 0))))) (intS (oneA (vT (nx tund s.tmps 4)))) (strS (oneA (vT (nx tund s.tmps 7)))) (intS (oneA (vT (nx tund s.tmps 9)))) (intS (oneA (vT (nx tund s.tmps 10)))) (intS (nx .und (cellsB (nx .dead s.blks 0)) 0)) (intS (nx .und (cellsB (nx .dead s.blks 0)) 1))) (none)
def LS3_0 (N : Nat) : LSpec β := VLS3_0 N (zj157 N)
def VE3 (N : Nat) (zq0 : (a0 : List Int) → (k : Bool → O β) → O β) (zq27 : (a0 : List Int) → (k : Int → Int → Int → O β) → O β) (zq57 : (a0 : Int) → (a1 : Int) → (a2 : Int) → (k : ByteArray → Bool → O β) → O β) (zq87 : (a0 : Int) → (a1 : Int) → (a2 : Int) → (k : ByteArray → Bool → O β) → O β) (zq88 : (a0 : Int) → (a1 : Int) → (a2 : Int) → (k : Int → O β) → O β) (zq78 : (a0 : Int) → (a1 : Int) → (a2 : Int) → (k : Int → O β) → O β) (zq96 : (a0 : ByteArray) → (a1 : Int) → (a2 : Int) → (k : Int → Int → Bool → O β) → O β) (zq98 : (a0 : Int) → (a1 : Int) → (a2 : Int) → (k : Int → O β) → O β) (zq102 : (a0 : Int) → (a1 : Int) → (a2 : Int) → (k : List Int → Bool → O β) → O β) (zq117 : (a0 : Int) → (a1 : Int) → (a2 : Int) → (a3 : Int) → (k : List Int → Bool → O β) → O β) (zq118 : (a0 : ByteArray) → (k : Bool → O β) → O β) (zq122 : (a0 : ByteArray) → (k : Int → O β) → O β) (zq126 : (a0 : ByteArray) → (k : Int → O β) → O β) (zq132 : (a0 : List Int) → (k : Int → O β) → O β) (zq138 : (a0 : List Int) → (k : ByteArray → O β) → O β) (zq139 : (a0 : List Int) → (k : ByteArray → Int → Int → O β) → O β) (zq147 : (a0 : ByteArray) → (a1 : Int) → (a2 : Int) → (k : Int → Int → Bool → O β) → O β) (zq144 : (a0 : ByteArray) → (k : Bool → O β) → O β) (zq151 : (a0 : ByteArray) → (k : Int → O β) → O β) (zq155 : (a0 : ByteArray) → (k : Int → O β) → O β) (zq157 : Nat → List Int → Int → ByteArray → Int → Int → Int → Int → (Bool → O β) → (List Int → Int → ByteArray → Int → Int → Int → O β) → O β) : Env β := ⟨[(4, VS4 N zq0), (5, VS5 N zq27), (6, VS6 N zq57), (7, VS7 N zq87), (8, VS8 N zq88), (9, VS9 N zq78), (10, VS10 N zq96), (11, VS11 N zq98), (12, VS12 N zq102), (13, VS13 N zq117), (14, VS14 N zq118), (15, VS15 N zq122), (16, VS16 N zq126), (17, VS17 N zq132), (18, VS18 N zq138), (19, VS19 N zq139), (20, VS20 N zq147), (21, VS21 N zq144), (22, VS22 N zq151), (23, VS23 N zq155)], [], [(0, VLS3_0 N zq157)], [], ⟨[], [], [], []⟩⟩
def E3 (N : Nat) : Env β := VE3 N (zj0 N) (zj27 N) (zj57 N) (zj87 N) (zj88 N) (zj78 N) (zj96 N) (zj98 N) (zj102 N) (zj117 N) (zj118 N) (zj122 N) (zj126 N) (zj132 N) (zj138 N) (zj139 N) (zj147 N) (zj144 N) (zj151 N) (zj155 N) (zj157 N)
def zb156 (N : Nat) (zq96 : (a0 : ByteArray) → (a1 : Int) → (a2 : Int) → (k : Int → Int → Bool → O β) → O β) (zq98 : (a0 : Int) → (a1 : Int) → (a2 : Int) → (k : Int → O β) → O β)  (v0 : List Int) (v1 : Int) (v2 : ByteArray) (v3 : Int) (v4 : Int) (v5 : Int) (v6 : Int) (rec_ : List Int → Int → ByteArray → Int → Int → Int → Int → O β) (k0 : Bool → O β) (k1 : List Int → Int → ByteArray → Int → Int → Int → O β) : O β :=
(gd ((decide (0 ≤ v5)))
((cond ((decide (v4 < (shlI .i64 1 v5))))
((gd ((decide (0 ≤ v1)))
((gd ((decide (0 ≤ v1)))
(zq96 v2 ((bits .and .i64 v4 (w64 ((shlI .i64 1 v1) - 1)))) ((shrI .i64 v4 v1)) fun r12 r13 r14 =>
(cond (!r14)
(k0 false)
(zq98 v5 v6 v4 fun r15 =>
(cond ((r12 != r15))
(k0 false)
((cond ((decide (r13 > v3)))
(k0 false)
(rec_ v0 v1 v2 v3 ((w64 (v4 + 1))) v5 v6)))))))))))
(k1 v0 v1 v2 v3 v5 v6))))
theorem zt156 (N : Nat)  (v0 : List Int) (v1 : Int) (v2 : ByteArray) (v3 : Int) (v4 : Int) (v5 : Int) (v6 : Int) (rec_ : List Int → Int → ByteArray → Int → Int → Int → Int → O β) (k0 : Bool → O β) (k1 : List Int → Int → ByteArray → Int → Int → Int → O β) : zj156 N v0 v1 v2 v3 v4 v5 v6 rec_ k0 k1 = zb156 N (zj96 N) (zj98 N) v0 v1 v2 v3 v4 v5 v6 rec_ k0 k1 := by
  unfold zj156 zb156
  rfl
theorem vst3_0_0 (N : Nat) (zq0 : (a0 : List Int) → (k : Bool → O β) → O β) (zq27 : (a0 : List Int) → (k : Int → Int → Int → O β) → O β) (zq57 : (a0 : Int) → (a1 : Int) → (a2 : Int) → (k : ByteArray → Bool → O β) → O β) (zq87 : (a0 : Int) → (a1 : Int) → (a2 : Int) → (k : ByteArray → Bool → O β) → O β) (zq88 : (a0 : Int) → (a1 : Int) → (a2 : Int) → (k : Int → O β) → O β) (zq78 : (a0 : Int) → (a1 : Int) → (a2 : Int) → (k : Int → O β) → O β) (zq96 : (a0 : ByteArray) → (a1 : Int) → (a2 : Int) → (k : Int → Int → Bool → O β) → O β) (zq98 : (a0 : Int) → (a1 : Int) → (a2 : Int) → (k : Int → O β) → O β) (zq102 : (a0 : Int) → (a1 : Int) → (a2 : Int) → (k : List Int → Bool → O β) → O β) (zq117 : (a0 : Int) → (a1 : Int) → (a2 : Int) → (a3 : Int) → (k : List Int → Bool → O β) → O β) (zq118 : (a0 : ByteArray) → (k : Bool → O β) → O β) (zq122 : (a0 : ByteArray) → (k : Int → O β) → O β) (zq126 : (a0 : ByteArray) → (k : Int → O β) → O β) (zq132 : (a0 : List Int) → (k : Int → O β) → O β) (zq138 : (a0 : List Int) → (k : ByteArray → O β) → O β) (zq139 : (a0 : List Int) → (k : ByteArray → Int → Int → O β) → O β) (zq147 : (a0 : ByteArray) → (a1 : Int) → (a2 : Int) → (k : Int → Int → Bool → O β) → O β) (zq144 : (a0 : ByteArray) → (k : Bool → O β) → O β) (zq151 : (a0 : ByteArray) → (k : Int → O β) → O β) (zq155 : (a0 : ByteArray) → (k : Int → O β) → O β) (zq157 : Nat → List Int → Int → ByteArray → Int → Int → Int → Int → (Bool → O β) → (List Int → Int → ByteArray → Int → Int → Int → O β) → O β)  (v0 : List Int) (v1 : Int) (v2 : ByteArray) (v3 : Int) (v4 : Int) (v5 : Int) (v6 : Int) (rec_ : St → O β) (K : Exit → St → O β) :
    ev lay (VE3 N zq0 zq27 zq57 zq87 zq88 zq78 zq96 zq98 zq102 zq117 zq118 zq122 zq126 zq132 zq138 zq139 zq147 zq144 zq151 zq155 zq157) (retMask Tryd.f3) (lp Tryd.f3 0).body (lp Tryd.f3 0).ex ((lp Tryd.f3 0).lv (retMask Tryd.f3)) (h3_0_0  v0 v1 v2 v3 v4 v5 v6) (nextR (fun s' => rec_ (s'.tidy ((lp Tryd.f3 0).lv (retMask Tryd.f3)))) K) = zb156 N zq96 zq98  v0 v1 v2 v3 v4 v5 v6 (fun v0 v1 v2 v3 v4 v5 v6 => rec_ (h3_0_0  v0 v1 v2 v3 v4 v5 v6)) (fun y0 => K .ret (x3_0_0_k0  y0)) (fun y0 y1 y2 y3 y4 y5 => K (.exit 0) (x3_0_0_k1  y0 y1 y2 y3 y4 y5)) := by kernel_rfl
theorem st3_0_0 (N : Nat)  (v0 : List Int) (v1 : Int) (v2 : ByteArray) (v3 : Int) (v4 : Int) (v5 : Int) (v6 : Int) (rec_ : St → O β) (K : Exit → St → O β) :
    ev lay (E3 N) (retMask Tryd.f3) (lp Tryd.f3 0).body (lp Tryd.f3 0).ex ((lp Tryd.f3 0).lv (retMask Tryd.f3)) (h3_0_0  v0 v1 v2 v3 v4 v5 v6) (nextR (fun s' => rec_ (s'.tidy ((lp Tryd.f3 0).lv (retMask Tryd.f3)))) K) = zj156 N  v0 v1 v2 v3 v4 v5 v6 (fun v0 v1 v2 v3 v4 v5 v6 => rec_ (h3_0_0  v0 v1 v2 v3 v4 v5 v6)) (fun y0 => K .ret (x3_0_0_k0  y0)) (fun y0 y1 y2 y3 y4 y5 => K (.exit 0) (x3_0_0_k1  y0 y1 y2 y3 y4 y5)) := (vst3_0_0 N (zj0 N) (zj27 N) (zj57 N) (zj87 N) (zj88 N) (zj78 N) (zj96 N) (zj98 N) (zj102 N) (zj117 N) (zj118 N) (zj122 N) (zj126 N) (zj132 N) (zj138 N) (zj139 N) (zj147 N) (zj144 N) (zj151 N) (zj155 N) (zj157 N) v0 v1 v2 v3 v4 v5 v6 rec_ K).trans (zt156 N  v0 v1 v2 v3 v4 v5 v6 (fun v0 v1 v2 v3 v4 v5 v6 => rec_ (h3_0_0  v0 v1 v2 v3 v4 v5 v6)) (fun y0 => K .ret (x3_0_0_k0  y0)) (fun y0 y1 y2 y3 y4 y5 => K (.exit 0) (x3_0_0_k1  y0 y1 y2 y3 y4 y5))).symm
theorem ro3_0_0 (N : Nat)  (K : Exit → St → O β) : ∀ (F : Nat) (v0 : List Int) (v1 : Int) (v2 : ByteArray) (v3 : Int) (v4 : Int) (v5 : Int) (v6 : Int), (lp Tryd.f3 0).rounds lay (E3 N) (retMask Tryd.f3) F (h3_0_0  v0 v1 v2 v3 v4 v5 v6) K = zj157 N  F v0 v1 v2 v3 v4 v5 v6 (fun y0 => K .ret (x3_0_0_k0  y0)) (fun y0 y1 y2 y3 y4 y5 => K (.exit 0) (x3_0_0_k1  y0 y1 y2 y3 y4 y5)) := by
  intro F
  induction F with
  | zero => intros; rfl
  | succ F ih =>
    intros
    rw [rounds_next]
    refine (st3_0_0 N  _ _ _ _ _ _ _ (fun s => (lp Tryd.f3 0).rounds lay (E3 N) (retMask Tryd.f3) F s K) K).trans ?_
    simp only [ih]
    rfl
theorem lk3_0 (N : Nat) : lookL (E3 (β := β) N).loops (lp Tryd.f3 0).id = LS3_0 N := by kernel_rfl
theorem rk3_0 (N : Nat) : RoundsOK lay (E3 (β := β) N) (retMask Tryd.f3) (lp Tryd.f3 0) := by
  intro s K r h
  rw [lk3_0] at h
  unfold LS3_0 VLS3_0 at h
  cases hb : shpSt (h3_0_0 [] 0 ByteArray.empty 0 0 0 0) s with
  | true =>
    rw [hb, cond_true] at h
    exact ⟨N, by rw [← shpSt_ref hb, fl3_0_0 s]; exact (ro3_0_0 N  K N (rInts (rowV (oneA (vT (nx tund s.tmps 0))))) (intS (oneA (vT (nx tund s.tmps 4)))) (strS (oneA (vT (nx tund s.tmps 7)))) (intS (oneA (vT (nx tund s.tmps 9)))) (intS (oneA (vT (nx tund s.tmps 10)))) (intS (nx .und (cellsB (nx .dead s.blks 0)) 0)) (intS (nx .und (cellsB (nx .dead s.blks 0)) 1))).trans h⟩
  | false =>
  rw [hb, cond_false] at h
  clear hb
  cases h
def zb158 (N : Nat) (zq0 : (a0 : List Int) → (k : Bool → O β) → O β) (zq27 : (a0 : List Int) → (k : Int → Int → Int → O β) → O β) (zq57 : (a0 : Int) → (a1 : Int) → (a2 : Int) → (k : ByteArray → Bool → O β) → O β) (zq87 : (a0 : Int) → (a1 : Int) → (a2 : Int) → (k : ByteArray → Bool → O β) → O β) (zq88 : (a0 : Int) → (a1 : Int) → (a2 : Int) → (k : Int → O β) → O β) (zq78 : (a0 : Int) → (a1 : Int) → (a2 : Int) → (k : Int → O β) → O β) (zq157 : Nat → List Int → Int → ByteArray → Int → Int → Int → Int → (Bool → O β) → (List Int → Int → ByteArray → Int → Int → Int → O β) → O β) (zq102 : (a0 : Int) → (a1 : Int) → (a2 : Int) → (k : List Int → Bool → O β) → O β) (zq117 : (a0 : Int) → (a1 : Int) → (a2 : Int) → (a3 : Int) → (k : List Int → Bool → O β) → O β) (zq118 : (a0 : ByteArray) → (k : Bool → O β) → O β) (zq122 : (a0 : ByteArray) → (k : Int → O β) → O β) (zq126 : (a0 : ByteArray) → (k : Int → O β) → O β) (zq132 : (a0 : List Int) → (k : Int → O β) → O β) (zq138 : (a0 : List Int) → (k : ByteArray → O β) → O β) (zq139 : (a0 : List Int) → (k : ByteArray → Int → Int → O β) → O β) (zq96 : (a0 : ByteArray) → (a1 : Int) → (a2 : Int) → (k : Int → Int → Bool → O β) → O β) (zq147 : (a0 : ByteArray) → (a1 : Int) → (a2 : Int) → (k : Int → Int → Bool → O β) → O β) (zq144 : (a0 : ByteArray) → (k : Bool → O β) → O β) (zq151 : (a0 : ByteArray) → (k : Int → O β) → O β) (zq155 : (a0 : ByteArray) → (k : Int → O β) → O β) (a0 : List Int) (k : Bool → O β) : O β :=
zq0 a0 fun r2 =>
(cond r2
(k true)
(zq27 a0 fun r3 r4 r5 =>
zq57 r3 r4 r5 fun r6 r7 =>
zq87 r3 r4 r5 fun r8 r9 =>
zq88 r3 r4 r5 fun r10 =>
(cond ((!(r6.toList == r8.toList)))
(k false)
((cond ((!(r7 == r9)))
(k false)
(zq78 r3 r4 r5 fun r11 =>
(cond ((r10 != r11))
(k false)
((cond r7
(zq157  N a0 r5 r8 r10 0 r3 r4 (fun e16_0 =>
k e16_0) (fun e17_0 e17_1 e17_2 e17_3 e17_4 e17_5 =>
zq102 e17_4 e17_5 e17_1 fun r18 r19 =>
zq117 e17_4 e17_5 e17_1 0 fun r20 r21 =>
zq117 e17_4 e17_5 e17_1 1 fun r22 r23 =>
zq118 e17_2 fun r24 =>
(cond (!r24)
(k false)
(zq122 e17_2 fun r25 =>
(cond ((r25 != e17_3))
(k false)
((gd ((decide (0 ≤ e17_3)))
(zq126 e17_2 fun r26 =>
(cond ((decide (r26 > (shlI .i64 1 e17_3))))
(k false)
(zq126 e17_2 fun r27 =>
(cond ((decide ((w64 ((r20.length : Int) + (r22.length : Int))) > r27)))
(k false)
(zq132 r18 fun r28 =>
zq126 e17_2 fun r29 =>
(cond ((decide (r28 > r29)))
(k false)
(zq138 e17_0 fun r30 =>
zq139 e17_0 fun r31 r32 r33 =>
zq96 r31 r32 r33 fun r34 r35 r36 =>
zq147 r31 r32 r33 fun r37 r38 r39 =>
(cond ((r34 == r37))
((cond ((r35 == r38))
((cond ((r36 == r39))
(zq118 r30 fun r40 =>
zq144 r30 fun r41 =>
(cond ((r40 == r41))
(zq122 r30 fun r42 =>
zq151 r30 fun r43 =>
(cond ((r42 == r43))
(zq126 r30 fun r44 =>
zq155 r30 fun r45 =>
k ((r44 == r45)))
(k false)))
(k false)))
(k false)))
(k false)))
(k false))))))))))))))))
(zq138 a0 fun r46 =>
zq139 a0 fun r47 r48 r49 =>
zq96 r47 r48 r49 fun r50 r51 r52 =>
zq147 r47 r48 r49 fun r53 r54 r55 =>
(cond ((r50 == r53))
((cond ((r51 == r54))
((cond ((r52 == r55))
(zq118 r46 fun r56 =>
zq144 r46 fun r57 =>
(cond ((r56 == r57))
(zq122 r46 fun r58 =>
zq151 r46 fun r59 =>
(cond ((r58 == r59))
(zq126 r46 fun r60 =>
zq155 r46 fun r61 =>
k ((r60 == r61)))
(k false)))
(k false)))
(k false)))
(k false)))
(k false))))))))))))
theorem zt158 (N : Nat) (a0 : List Int) (k : Bool → O β) : zj158 N a0 k = zb158 N (zj0 N) (zj27 N) (zj57 N) (zj87 N) (zj88 N) (zj78 N) (zj157 N) (zj102 N) (zj117 N) (zj118 N) (zj122 N) (zj126 N) (zj132 N) (zj138 N) (zj139 N) (zj96 N) (zj147 N) (zj144 N) (zj151 N) (zj155 N) a0 k := by
  unfold zj158 zb158
  rfl
theorem ve3_0 (N : Nat) (zq0 : (a0 : List Int) → (k : Bool → O β) → O β) (zq27 : (a0 : List Int) → (k : Int → Int → Int → O β) → O β) (zq57 : (a0 : Int) → (a1 : Int) → (a2 : Int) → (k : ByteArray → Bool → O β) → O β) (zq87 : (a0 : Int) → (a1 : Int) → (a2 : Int) → (k : ByteArray → Bool → O β) → O β) (zq88 : (a0 : Int) → (a1 : Int) → (a2 : Int) → (k : Int → O β) → O β) (zq78 : (a0 : Int) → (a1 : Int) → (a2 : Int) → (k : Int → O β) → O β) (zq96 : (a0 : ByteArray) → (a1 : Int) → (a2 : Int) → (k : Int → Int → Bool → O β) → O β) (zq98 : (a0 : Int) → (a1 : Int) → (a2 : Int) → (k : Int → O β) → O β) (zq102 : (a0 : Int) → (a1 : Int) → (a2 : Int) → (k : List Int → Bool → O β) → O β) (zq117 : (a0 : Int) → (a1 : Int) → (a2 : Int) → (a3 : Int) → (k : List Int → Bool → O β) → O β) (zq118 : (a0 : ByteArray) → (k : Bool → O β) → O β) (zq122 : (a0 : ByteArray) → (k : Int → O β) → O β) (zq126 : (a0 : ByteArray) → (k : Int → O β) → O β) (zq132 : (a0 : List Int) → (k : Int → O β) → O β) (zq138 : (a0 : List Int) → (k : ByteArray → O β) → O β) (zq139 : (a0 : List Int) → (k : ByteArray → Int → Int → O β) → O β) (zq147 : (a0 : ByteArray) → (a1 : Int) → (a2 : Int) → (k : Int → Int → Bool → O β) → O β) (zq144 : (a0 : ByteArray) → (k : Bool → O β) → O β) (zq151 : (a0 : ByteArray) → (k : Int → O β) → O β) (zq155 : (a0 : ByteArray) → (k : Int → O β) → O β) (zq157 : Nat → List Int → Int → ByteArray → Int → Int → Int → Int → (Bool → O β) → (List Int → Int → ByteArray → Int → Int → Int → O β) → O β)  (a0 : List Int) (K : TV → O β) : evFn lay (VE3 N zq0 zq27 zq57 zq87 zq88 zq78 zq96 zq98 zq102 zq117 zq118 zq122 zq126 zq132 zq138 zq139 zq147 zq144 zq151 zq155 zq157) Tryd.f3 [.v (.one (.sl 5 (.ints .u8 a0)))] K = zb158 N zq0 zq27 zq57 zq87 zq88 zq78 zq157 zq102 zq117 zq118 zq122 zq126 zq132 zq138 zq139 zq96 zq147 zq144 zq151 zq155 a0 (fun z1 => K (.v (.one (.bool z1)))) := by kernel_rfl
theorem e3_0 (N : Nat)  (a0 : List Int) (K : TV → O β) : evFn lay (E3 N) Tryd.f3 [.v (.one (.sl 5 (.ints .u8 a0)))] K = zj158 N a0 (fun z1 => K (.v (.one (.bool z1)))) := (ve3_0 N (zj0 N) (zj27 N) (zj57 N) (zj87 N) (zj88 N) (zj78 N) (zj96 N) (zj98 N) (zj102 N) (zj117 N) (zj118 N) (zj122 N) (zj126 N) (zj132 N) (zj138 N) (zj139 N) (zj147 N) (zj144 N) (zj151 N) (zj155 N) (zj157 N) a0 K).trans (zt158 N a0 (fun z1 => K (.v (.one (.bool z1))))).symm
theorem o3 (N : Nat) : SpecOK (β := β) inv Tryd.prog 3 (S3 N) := by
  refine spec_of lay_ok mixed (E := E3 N) (specs_loops (specs_cons (o4 N) (specs_cons (o5 N) (specs_cons (o6 N) (specs_cons (o7 N) (specs_cons (o8 N) (specs_cons (o9 N) (specs_cons (o10 N) (specs_cons (o11 N) (specs_cons (o12 N) (specs_cons (o13 N) (specs_cons (o14 N) (specs_cons (o15 N) (specs_cons (o16 N) (specs_cons (o17 N) (specs_cons (o18 N) (specs_cons (o19 N) (specs_cons (o20 N) (specs_cons (o21 N) (specs_cons (o22 N) (specs_cons (o23 N) specs_nil))))))))))))))))))))) muts_nil gs_nil Tryd.func3 (by kernel_rfl) 1 (by kernel_rfl) ⟨trivial, rk3_0 N⟩ fun args K r h => ?_
  unfold S3 VS3 at h
  split at h
  · exact (e3_0 N _ _).trans h
  · cases h
end Go.Proofs.YtddflpokemgnmaaDoor
