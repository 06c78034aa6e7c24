/- The functions that the claims reach answer as their texts do. -/
import Derived.Test.YtddflpokemgnmaaDoorE7
namespace Go.Proofs.YtddflpokemgnmaaDoor
open Go.Rv
set_option maxRecDepth 100000
set_option maxHeartbeats 2000000
set_option linter.unusedVariables false
variable {β : Type}
def VSF39 (N : Nat) (zq115 : Nat → Int → Int → Int → Int → Int → List Int → List Int → (Int → Int → Int → Int → List Int → List Int → O β) → O β) (G : Nat) : GSpec β := fun args bl K => match args, bl with
  | [.v (.one (.ptr 0 0)), .v (.one (.row 1)), .v (.one (.int .i64 a0))], [.pcells 0 65 [.int .i64 a1, .int .i64 a2, .int .i64 a3, .int .i64 a4, .fsl 3 (.ints .i64 a5)], .prow 1 3 (.ints .i64 a6)] => zq115 G a0 a1 a2 a3 a4 a5 a6 (fun y0 y1 y2 y3 y4 y5 => K (.tup []) [.pcells 0 65 [.int .i64 y0, .int .i64 y1, .int .i64 y2, .int .i64 y3, .fsl 3 (.ints .i64 y4)], .prow 1 3 (.ints .i64 y5)])
  | _, _ => none
def SF39 (N : Nat) (G : Nat) : GSpec β := VSF39 N (zj115 N) G
def VS39 (N : Nat) (zq115 : Nat → Int → Int → Int → Int → Int → List Int → List Int → (Int → Int → Int → Int → List Int → List Int → O β) → O β) : GSpec β := VSF39 N zq115 N
def S39 (N : Nat) : GSpec β := SF39 N N
def h39_0_0  (v0 : Int) (v1 : Int) (v2 : Int) (v3 : Int) (v4 : List Int) (v5 : List Int) (v6 : Int) : St := ⟨tund :: .v (.one (.row 1)) :: tund :: .v (.one (.ptr 2 0)) :: tund :: tund :: .v (.one (.ptr 3 0)) :: tund :: tund :: tund :: tund :: tund :: tund :: tund :: tund :: tund :: tund :: tund :: tund :: tund :: tund :: tund :: tund :: tund :: tund :: tund :: tund :: tund :: tund :: tund :: tund :: tund :: tund :: tund :: tund :: tund :: tund :: tund :: tund :: tund :: tund :: tund :: tund :: tund :: tund :: tund :: tund :: tund :: tund :: tund :: tund :: tund :: tund :: tund :: tund :: tund :: tund :: tund :: tund :: tund :: tund :: tund :: tund :: tund :: tund :: tund :: tund :: tund :: tund :: tund :: tund :: tund :: tund :: tund :: tund :: [], [.pcells 0 65 [.int .i64 v0, .int .i64 v1, .int .i64 v2, .int .i64 v3, .fsl 3 (.ints .i64 v4)], .prow 1 3 (.ints .i64 v5), .cells 63 [.ptr 0 0], .cells 3 [.int .i64 v6]]⟩
def x39_0_0_k0  (y0 : Int) (y1 : Int) (y2 : Int) (y3 : Int) (y4 : List Int) (y5 : List Int) : St := ⟨tund :: tund :: tund :: tund :: tund :: tund :: tund :: tund :: tund :: tund :: tund :: tund :: tund :: tund :: tund :: tund :: tund :: tund :: tund :: tund :: tund :: tund :: tund :: tund :: tund :: tund :: tund :: tund :: tund :: tund :: tund :: tund :: tund :: tund :: tund :: tund :: tund :: tund :: tund :: tund :: tund :: tund :: tund :: tund :: tund :: tund :: tund :: tund :: tund :: tund :: tund :: tund :: tund :: tund :: tund :: tund :: tund :: tund :: tund :: tund :: tund :: tund :: tund :: tund :: tund :: tund :: tund :: tund :: tund :: tund :: tund :: tund :: tund :: tund :: tund :: [], [.pcells 0 65 [.int .i64 y0, .int .i64 y1, .int .i64 y2, .int .i64 y3, .fsl 3 (.ints .i64 y4)], .prow 1 3 (.ints .i64 y5)]⟩
theorem fl39_0_0 (s : St) : refSt (h39_0_0 0 0 0 0 [] [] 0) s = h39_0_0 (intS (nx .und (cellsB (nx .dead s.blks 0)) 0)) (intS (nx .und (cellsB (nx .dead s.blks 0)) 1)) (intS (nx .und (cellsB (nx .dead s.blks 0)) 2)) (intS (nx .und (cellsB (nx .dead s.blks 0)) 3)) (rInts (rowV (nx .und (cellsB (nx .dead s.blks 0)) 4))) (rInts (rowB_ (nx .dead s.blks 1))) (intS (nx .und (cellsB (nx .dead s.blks 3)) 0)) := by kernel_rfl
def VLS39_0 (N : Nat) (zq113 : (self : Int → Int → Int → Int → Int → List Int → List Int → (Int → Int → Int → Int → List Int → List Int → O β) → O β) → Nat → Int → Int → Int → Int → List Int → List Int → Int → (Int → Int → Int → Int → List Int → List Int → O β) → O β) (zq115 : Nat → Int → Int → Int → Int → Int → List Int → List Int → (Int → Int → Int → Int → List Int → List Int → O β) → O β) (G : Nat) : LSpec β := fun s K => cond (shpSt (h39_0_0 0 0 0 0 [] [] 0) s) ((fun (v0 : Int) (v1 : Int) (v2 : Int) (v3 : Int) (v4 : List Int) (v5 : List Int) (v6 : Int) => zq113 (zq115 G)  N v0 v1 v2 v3 v4 v5 v6 (fun y0 y1 y2 y3 y4 y5 => K (.exit 0) (x39_0_0_k0  y0 y1 y2 y3 y4 y5))) (intS (nx .und (cellsB (nx .dead s.blks 0)) 0)) (intS (nx .und (cellsB (nx .dead s.blks 0)) 1)) (intS (nx .und (cellsB (nx .dead s.blks 0)) 2)) (intS (nx .und (cellsB (nx .dead s.blks 0)) 3)) (rInts (rowV (nx .und (cellsB (nx .dead s.blks 0)) 4))) (rInts (rowB_ (nx .dead s.blks 1))) (intS (nx .und (cellsB (nx .dead s.blks 3)) 0))) (none)
def LS39_0 (N : Nat) (G : Nat) : LSpec β := VLS39_0 N (zj113 N) (zj115 N) G
def VE39 (N : Nat) (zq29 : (a0 : Int) → (a1 : Int) → (k : Int → O β) → O β) (zq38 : (a0 : Int) → (a1 : Int) → (a2 : Int) → (k : Int → O β) → O β) (zq110 : (a0 : List Int) → (a1 : (Int → (Bool → O β) → O β)) → (k : Bool → O β) → O β) (zq105 : (a0 : Int) → (c0 : Int) → (c1 : Int) → (c2 : Int) → (c3 : Int) → (c4 : List Int) → (c5 : Int) → (k : Bool → O β) → O β) (zq106 : (a0 : Int) → (k : Bool → O β) → O β) (zq113 : (self : Int → Int → Int → Int → Int → List Int → List Int → (Int → Int → Int → Int → List Int → List Int → O β) → O β) → Nat → Int → Int → Int → Int → List Int → List Int → Int → (Int → Int → Int → Int → List Int → List Int → O β) → O β) (zq115 : Nat → Int → Int → Int → Int → Int → List Int → List Int → (Int → Int → Int → Int → List Int → List Int → O β) → O β) (G : Nat) : Env β := ⟨[(65, S65 N), (64, VS64 N zq29), (35, VS35 N zq38), (42, VS42 N zq110 zq105 zq106), (66, VS66 N zq105)], [], [(0, VLS39_0 N zq113 zq115 G)], [(39, VSF39 N zq115 G)], ⟨[], [17], [], []⟩⟩
def E39 (N : Nat) (G : Nat) : Env β := VE39 N (zj29 N) (zj38 N) (zj110 N) (zj105 N) (zj106 N) (zj113 N) (zj115 N) G
def zb112 (N : Nat) (zq29 : (a0 : Int) → (a1 : Int) → (k : Int → O β) → O β) (zq38 : (a0 : Int) → (a1 : Int) → (a2 : Int) → (k : Int → O β) → O β) (zq110 : (a0 : List Int) → (a1 : (Int → (Bool → O β) → O β)) → (k : Bool → O β) → O β) (zq105 : (a0 : Int) → (c0 : Int) → (c1 : Int) → (c2 : Int) → (c3 : Int) → (c4 : List Int) → (c5 : Int) → (k : Bool → O β) → O β) (self : Int → Int → Int → Int → Int → List Int → List Int → (Int → Int → Int → Int → List Int → List Int → O β) → O β)  (v0 : Int) (v1 : Int) (v2 : Int) (v3 : Int) (v4 : List Int) (v5 : List Int) (v6 : Int) (rec_ : Int → Int → Int → Int → List Int → List Int → Int → O β) (k0 : Int → Int → Int → Int → List Int → List Int → O β) : O β :=
zq29 v0 v1 fun r9 =>
(cond ((decide (v6 < r9)))
(zq29 v0 v1 fun r10 =>
(cond ((decide ((w64 ((w64 ((v5.length : Int) + r10)) - v6)) > (v4.length : Int))))
(zq38 v0 v1 v6 fun r11 =>
(cond ((r11 == v3))
(zq110 v5 (fun x0 k => zq105 x0 v0 v1 v2 v3 v4 v6 k) fun r12 =>
(cond (!r12)
(slices_Clone_Sint_int N v5 fun r13 =>
(gd ((decide ((r13.length + ((([] : List Int) ++ [v6])).length) * 8 ≤ 140737488355328)))
(self ((w64 (v6 + 1))) v0 v1 v2 v3 v4 ((r13 ++ (([] : List Int) ++ [v6]))) (fun r14_0 r14_1 r14_2 r14_3 r14_4 r14_5 =>
slices_Clone_Sint_int N v5 fun r15 =>
(gd ((decide ((r15.length + ((([] : List Int) ++ [v6])).length) * 8 ≤ 140737488355328)))
(self ((w64 (v6 + 1))) v0 v1 v2 v3 v4 ((r15 ++ (([] : List Int) ++ [v6]))) (fun r16_0 r16_1 r16_2 r16_3 r16_4 r16_5 =>
(zj111 r14_0 r14_1 r14_2 r14_3 r14_4 v5 v6 r16_0 r16_1 r16_2 r16_3 r16_4 v5 v6
(rec_ r14_0 r14_1 r14_2 r14_3 r14_4 v5 ((w64 (v6 + 1))))))))))))
(rec_ v0 v1 v2 v3 v4 v5 ((w64 (v6 + 1))))))
(rec_ v0 v1 v2 v3 v4 v5 ((w64 (v6 + 1))))))
(k0 v0 v1 v2 v3 v4 v5)))
(k0 v0 v1 v2 v3 v4 v5))
theorem zt112 (N : Nat) (self : Int → Int → Int → Int → Int → List Int → List Int → (Int → Int → Int → Int → List Int → List Int → O β) → O β)  (v0 : Int) (v1 : Int) (v2 : Int) (v3 : Int) (v4 : List Int) (v5 : List Int) (v6 : Int) (rec_ : Int → Int → Int → Int → List Int → List Int → Int → O β) (k0 : Int → Int → Int → Int → List Int → List Int → O β) : zj112 N self v0 v1 v2 v3 v4 v5 v6 rec_ k0 = zb112 N (zj29 N) (zj38 N) (zj110 N) (zj105 N) self v0 v1 v2 v3 v4 v5 v6 rec_ k0 := by
  unfold zj112 zb112
  rfl
theorem vst39_0_0 (N : Nat) (zq29 : (a0 : Int) → (a1 : Int) → (k : Int → O β) → O β) (zq38 : (a0 : Int) → (a1 : Int) → (a2 : Int) → (k : Int → O β) → O β) (zq110 : (a0 : List Int) → (a1 : (Int → (Bool → O β) → O β)) → (k : Bool → O β) → O β) (zq105 : (a0 : Int) → (c0 : Int) → (c1 : Int) → (c2 : Int) → (c3 : Int) → (c4 : List Int) → (c5 : Int) → (k : Bool → O β) → O β) (zq106 : (a0 : Int) → (k : Bool → O β) → O β) (zq113 : (self : Int → Int → Int → Int → Int → List Int → List Int → (Int → Int → Int → Int → List Int → List Int → O β) → O β) → Nat → Int → Int → Int → Int → List Int → List Int → Int → (Int → Int → Int → Int → List Int → List Int → O β) → O β) (zq115 : Nat → Int → Int → Int → Int → Int → List Int → List Int → (Int → Int → Int → Int → List Int → List Int → O β) → O β) (G : Nat)  (v0 : Int) (v1 : Int) (v2 : Int) (v3 : Int) (v4 : List Int) (v5 : List Int) (v6 : Int) (rec_ : St → O β) (K : Exit → St → O β) :
    ev lay (VE39 N zq29 zq38 zq110 zq105 zq106 zq113 zq115 G) (retMask Tryd.f39) (lp Tryd.f39 0).body (lp Tryd.f39 0).ex ((lp Tryd.f39 0).lv (retMask Tryd.f39)) (h39_0_0  v0 v1 v2 v3 v4 v5 v6) (nextR (fun s' => rec_ (s'.tidy ((lp Tryd.f39 0).lv (retMask Tryd.f39)))) K) = zb112 N zq29 zq38 zq110 zq105 (zq115 G)  v0 v1 v2 v3 v4 v5 v6 (fun v0 v1 v2 v3 v4 v5 v6 => rec_ (h39_0_0  v0 v1 v2 v3 v4 v5 v6)) (fun y0 y1 y2 y3 y4 y5 => K (.exit 0) (x39_0_0_k0  y0 y1 y2 y3 y4 y5)) := by kernel_rfl
theorem st39_0_0 (N : Nat) (G : Nat)  (v0 : Int) (v1 : Int) (v2 : Int) (v3 : Int) (v4 : List Int) (v5 : List Int) (v6 : Int) (rec_ : St → O β) (K : Exit → St → O β) :
    ev lay (E39 N G) (retMask Tryd.f39) (lp Tryd.f39 0).body (lp Tryd.f39 0).ex ((lp Tryd.f39 0).lv (retMask Tryd.f39)) (h39_0_0  v0 v1 v2 v3 v4 v5 v6) (nextR (fun s' => rec_ (s'.tidy ((lp Tryd.f39 0).lv (retMask Tryd.f39)))) K) = zj112 N (zj115 N G)  v0 v1 v2 v3 v4 v5 v6 (fun v0 v1 v2 v3 v4 v5 v6 => rec_ (h39_0_0  v0 v1 v2 v3 v4 v5 v6)) (fun y0 y1 y2 y3 y4 y5 => K (.exit 0) (x39_0_0_k0  y0 y1 y2 y3 y4 y5)) := (vst39_0_0 N (zj29 N) (zj38 N) (zj110 N) (zj105 N) (zj106 N) (zj113 N) (zj115 N) G v0 v1 v2 v3 v4 v5 v6 rec_ K).trans (zt112 N (zj115 N G)  v0 v1 v2 v3 v4 v5 v6 (fun v0 v1 v2 v3 v4 v5 v6 => rec_ (h39_0_0  v0 v1 v2 v3 v4 v5 v6)) (fun y0 y1 y2 y3 y4 y5 => K (.exit 0) (x39_0_0_k0  y0 y1 y2 y3 y4 y5))).symm
theorem ro39_0_0 (N : Nat) (G : Nat)  (K : Exit → St → O β) : ∀ (F : Nat) (v0 : Int) (v1 : Int) (v2 : Int) (v3 : Int) (v4 : List Int) (v5 : List Int) (v6 : Int), (lp Tryd.f39 0).rounds lay (E39 N G) (retMask Tryd.f39) F (h39_0_0  v0 v1 v2 v3 v4 v5 v6) K = zj113 N (zj115 N G)  F v0 v1 v2 v3 v4 v5 v6 (fun y0 y1 y2 y3 y4 y5 => K (.exit 0) (x39_0_0_k0  y0 y1 y2 y3 y4 y5)) := by
  intro F
  induction F with
  | zero => intros; rfl
  | succ F ih =>
    intros
    rw [rounds_next]
    refine (st39_0_0 N G  _ _ _ _ _ _ _ (fun s => (lp Tryd.f39 0).rounds lay (E39 N G) (retMask Tryd.f39) F s K) K).trans ?_
    simp only [ih]
    rfl
theorem lk39_0 (N : Nat) (G : Nat) : lookL (E39 (β := β) N G).loops (lp Tryd.f39 0).id = LS39_0 N G := by kernel_rfl
theorem rk39_0 (N : Nat) (G : Nat) : RoundsOK lay (E39 (β := β) N G) (retMask Tryd.f39) (lp Tryd.f39 0) := by
  intro s K r h
  rw [lk39_0] at h
  unfold LS39_0 VLS39_0 at h
  cases hb : shpSt (h39_0_0 0 0 0 0 [] [] 0) s with
  | true =>
    rw [hb, cond_true] at h
    exact ⟨N, by rw [← shpSt_ref hb, fl39_0_0 s]; exact (ro39_0_0 N G  K N (intS (nx .und (cellsB (nx .dead s.blks 0)) 0)) (intS (nx .und (cellsB (nx .dead s.blks 0)) 1)) (intS (nx .und (cellsB (nx .dead s.blks 0)) 2)) (intS (nx .und (cellsB (nx .dead s.blks 0)) 3)) (rInts (rowV (nx .und (cellsB (nx .dead s.blks 0)) 4))) (rInts (rowB_ (nx .dead s.blks 1))) (intS (nx .und (cellsB (nx .dead s.blks 3)) 0))).trans h⟩
  | false =>
  rw [hb, cond_false] at h
  clear hb
  cases h
def zb114 (N : Nat) (zq113 : (self : Int → Int → Int → Int → Int → List Int → List Int → (Int → Int → Int → Int → List Int → List Int → O β) → O β) → Nat → Int → Int → Int → Int → List Int → List Int → Int → (Int → Int → Int → Int → List Int → List Int → O β) → O β) (self : Int → Int → Int → Int → Int → List Int → List Int → (Int → Int → Int → Int → List Int → List Int → O β) → O β) (a0 : Int) (a1 : Int) (a2 : Int) (a3 : Int) (a4 : Int) (a5 : List Int) (a6 : List Int) (k0 : Int → Int → Int → Int → List Int → List Int → O β) : O β :=
(cond ((decide ((a6.length : Int) > (a5.length : Int))))
(slices_Clone_Sint_int N a6 fun r8 =>
zq113 self  N a1 a2 a3 a4 r8 a6 a0 (fun e17_0 e17_1 e17_2 e17_3 e17_4 e17_5 =>
k0 e17_0 e17_1 e17_2 e17_3 e17_4 e17_5))
(zq113 self  N a1 a2 a3 a4 a5 a6 a0 (fun e18_0 e18_1 e18_2 e18_3 e18_4 e18_5 =>
k0 e18_0 e18_1 e18_2 e18_3 e18_4 e18_5)))
theorem zt114 (N : Nat) (self : Int → Int → Int → Int → Int → List Int → List Int → (Int → Int → Int → Int → List Int → List Int → O β) → O β) (a0 : Int) (a1 : Int) (a2 : Int) (a3 : Int) (a4 : Int) (a5 : List Int) (a6 : List Int) (k0 : Int → Int → Int → Int → List Int → List Int → O β) : zj114 N self a0 a1 a2 a3 a4 a5 a6 k0 = zb114 N (zj113 N) self a0 a1 a2 a3 a4 a5 a6 k0 := by
  unfold zj114 zb114
  rfl
theorem ve39_0 (N : Nat) (zq29 : (a0 : Int) → (a1 : Int) → (k : Int → O β) → O β) (zq38 : (a0 : Int) → (a1 : Int) → (a2 : Int) → (k : Int → O β) → O β) (zq110 : (a0 : List Int) → (a1 : (Int → (Bool → O β) → O β)) → (k : Bool → O β) → O β) (zq105 : (a0 : Int) → (c0 : Int) → (c1 : Int) → (c2 : Int) → (c3 : Int) → (c4 : List Int) → (c5 : Int) → (k : Bool → O β) → O β) (zq106 : (a0 : Int) → (k : Bool → O β) → O β) (zq113 : (self : Int → Int → Int → Int → Int → List Int → List Int → (Int → Int → Int → Int → List Int → List Int → O β) → O β) → Nat → Int → Int → Int → Int → List Int → List Int → Int → (Int → Int → Int → Int → List Int → List Int → O β) → O β) (zq115 : Nat → Int → Int → Int → Int → Int → List Int → List Int → (Int → Int → Int → Int → List Int → List Int → O β) → O β) (G : Nat) (a0 : Int) (a1 : Int) (a2 : Int) (a3 : Int) (a4 : Int) (a5 : List Int) (a6 : List Int) (K : TV → List Blk → O β) : evFnG lay (VE39 N zq29 zq38 zq110 zq105 zq106 zq113 zq115 G) Tryd.f39 [.v (.one (.ptr 0 0)), .v (.one (.row 1)), .v (.one (.int .i64 a0))] [.pcells 0 65 [.int .i64 a1, .int .i64 a2, .int .i64 a3, .int .i64 a4, .fsl 3 (.ints .i64 a5)], .prow 1 3 (.ints .i64 a6)] K = zb114 N zq113 (zq115 G) a0 a1 a2 a3 a4 a5 a6 (fun y0 y1 y2 y3 y4 y5 => K (.tup []) [.pcells 0 65 [.int .i64 y0, .int .i64 y1, .int .i64 y2, .int .i64 y3, .fsl 3 (.ints .i64 y4)], .prow 1 3 (.ints .i64 y5)]) := by kernel_rfl
theorem e39_0 (N : Nat) (G : Nat) (a0 : Int) (a1 : Int) (a2 : Int) (a3 : Int) (a4 : Int) (a5 : List Int) (a6 : List Int) (K : TV → List Blk → O β) : evFnG lay (E39 N G) Tryd.f39 [.v (.one (.ptr 0 0)), .v (.one (.row 1)), .v (.one (.int .i64 a0))] [.pcells 0 65 [.int .i64 a1, .int .i64 a2, .int .i64 a3, .int .i64 a4, .fsl 3 (.ints .i64 a5)], .prow 1 3 (.ints .i64 a6)] K = zj115 N (G + 1) a0 a1 a2 a3 a4 a5 a6 (fun y0 y1 y2 y3 y4 y5 => K (.tup []) [.pcells 0 65 [.int .i64 y0, .int .i64 y1, .int .i64 y2, .int .i64 y3, .fsl 3 (.ints .i64 y4)], .prow 1 3 (.ints .i64 y5)]) := (ve39_0 N (zj29 N) (zj38 N) (zj110 N) (zj105 N) (zj106 N) (zj113 N) (zj115 N) G a0 a1 a2 a3 a4 a5 a6 K).trans (zt114 N (zj115 N G) a0 a1 a2 a3 a4 a5 a6 (fun y0 y1 y2 y3 y4 y5 => K (.tup []) [.pcells 0 65 [.int .i64 y0, .int .i64 y1, .int .i64 y2, .int .i64 y3, .fsl 3 (.ints .i64 y4)], .prow 1 3 (.ints .i64 y5)])).symm
theorem z39 (N : Nat) : ∀ args bl K r, SF39 (β := β) N 0 args bl K = some r → (none : O β) = some r := by
  intro args bl K r h
  unfold SF39 VSF39 at h
  split at h <;> exact h
theorem of39 (N : Nat) : ∀ G, GOK (β := β) inv Tryd.prog 39 (SF39 N G) := by
  intro G
  induction G with
  | zero => exact g_zero Tryd.func39 (by kernel_rfl) (z39 N)
  | succ G ih =>
    refine g_of lay_ok mixed (E := E39 N G) (specs_loops (specs_cons (o65 N) (specs_cons (o64 N) (specs_cons (o35 N) (specs_cons (o42 N) (specs_cons (o66 N) specs_nil)))))) muts_nil (gs_cons ih gs_nil) Tryd.func39 (by kernel_rfl) 1 (by kernel_rfl) ⟨trivial, rk39_0 N G⟩ fun args bl K r h => ?_
    unfold SF39 VSF39 at h
    split at h
    · exact (e39_0 N G _ _ _ _ _ _ _ _).trans h
    · cases h
theorem o39 (N : Nat) : GOK (β := β) inv Tryd.prog 39 (S39 N) := of39 N N
def VS13 (N : Nat) (zq117 : (a0 : Int) → (a1 : Int) → (a2 : Int) → (a3 : Int) → (k : List Int → Bool → O β) → O β) : Rv.Spec β := fun args K => match args with
  | [.v (.agg [.int .i64 a0, .int .i64 a1]), .v (.one (.int .i64 a2)), .v (.one (.int .i64 a3))] => zq117 a0 a1 a2 a3 (fun z4 z5 => K (.tup [.one (.fsl 3 (.ints .i64 z4)), .one (.bool z5)]))
  | _ => none
def S13 (N : Nat) : Rv.Spec β := VS13 N (zj117 N)
def VE13 (N : Nat) (zq31 : (a0 : Int) → (a1 : Int) → (a2 : Int) → (k : Bool → O β) → O β) (zq103 : (a0 : Int) → (k : Bool → O β) → O β) (zq115 : Nat → Int → Int → Int → Int → Int → List Int → List Int → (Int → Int → Int → Int → List Int → List Int → O β) → O β) : Env β := ⟨[(36, VS36 N zq31), (38, VS38 N zq103)], [], [], [(39, VS39 N zq115)], ⟨[], [26, 6], [], []⟩⟩
def E13 (N : Nat) : Env β := VE13 N (zj31 N) (zj103 N) (zj115 N)
def zb117 (N : Nat) (zq31 : (a0 : Int) → (a1 : Int) → (a2 : Int) → (k : Bool → O β) → O β) (zq103 : (a0 : Int) → (k : Bool → O β) → O β) (zq115 : Nat → Int → Int → Int → Int → Int → List Int → List Int → (Int → Int → Int → Int → List Int → List Int → O β) → O β) (a0 : Int) (a1 : Int) (a2 : Int) (a3 : Int) (k : List Int → Bool → O β) : O β :=
zq31 a0 a1 a2 fun r6 =>
(cond (!r6)
(k (([] : List Int)) false)
((cond ((decide (a0 > 4)))
(k (([] : List Int)) false)
(zq103 a3 fun r7 =>
(cond (!r7)
(k (([] : List Int)) false)
(zq115 N 0 a0 a1 a2 a3 (([] : List Int)) (([] : List Int)) (fun r8_0 r8_1 r8_2 r8_3 r8_4 r8_5 =>
k r8_4 true)))))))
theorem zt117 (N : Nat) (a0 : Int) (a1 : Int) (a2 : Int) (a3 : Int) (k : List Int → Bool → O β) : zj117 N a0 a1 a2 a3 k = zb117 N (zj31 N) (zj103 N) (zj115 N) a0 a1 a2 a3 k := by
  unfold zj117 zb117
  rfl
theorem ve13_0 (N : Nat) (zq31 : (a0 : Int) → (a1 : Int) → (a2 : Int) → (k : Bool → O β) → O β) (zq103 : (a0 : Int) → (k : Bool → O β) → O β) (zq115 : Nat → Int → Int → Int → Int → Int → List Int → List Int → (Int → Int → Int → Int → List Int → List Int → O β) → O β)  (a0 : Int) (a1 : Int) (a2 : Int) (a3 : Int) (K : TV → O β) : evFn lay (VE13 N zq31 zq103 zq115) Tryd.f13 [.v (.agg [.int .i64 a0, .int .i64 a1]), .v (.one (.int .i64 a2)), .v (.one (.int .i64 a3))] (frzK K) = zb117 N zq31 zq103 zq115 a0 a1 a2 a3 (fun z4 z5 => K (.tup [.one (.fsl 3 (.ints .i64 z4)), .one (.bool z5)])) := by kernel_rfl
theorem e13_0 (N : Nat)  (a0 : Int) (a1 : Int) (a2 : Int) (a3 : Int) (K : TV → O β) : evFn lay (E13 N) Tryd.f13 [.v (.agg [.int .i64 a0, .int .i64 a1]), .v (.one (.int .i64 a2)), .v (.one (.int .i64 a3))] (frzK K) = zj117 N a0 a1 a2 a3 (fun z4 z5 => K (.tup [.one (.fsl 3 (.ints .i64 z4)), .one (.bool z5)])) := (ve13_0 N (zj31 N) (zj103 N) (zj115 N) a0 a1 a2 a3 K).trans (zt117 N a0 a1 a2 a3 (fun z4 z5 => K (.tup [.one (.fsl 3 (.ints .i64 z4)), .one (.bool z5)]))).symm
theorem o13 (N : Nat) : SpecOK (β := β) inv Tryd.prog 13 (S13 N) := by
  refine spec_of_frz lay_ok mixed (E := E13 N) (specs_loops (specs_cons (o36 N) (specs_cons (o38 N) specs_nil))) muts_nil (gs_cons (o39 N) gs_nil) Tryd.func13 (by kernel_rfl) 0 (by kernel_rfl) trivial fun args K r h => ?_
  unfold S13 VS13 at h
  split at h
  · exact (e13_0 N _ _ _ _ _).trans h
  · cases h
def VS14 (N : Nat) (zq118 : (a0 : ByteArray) → (k : Bool → O β) → O β) : Rv.Spec β := fun args K => match args with
  | [.v (.one (.str a0))] => zq118 a0 (fun z1 => K (.v (.one (.bool z1))))
  | _ => none
def S14 (N : Nat) : Rv.Spec β := VS14 N (zj118 N)
def VE14 (N : Nat) (zq92 : (a0 : ByteArray) → (k : Tr → Bool → O β) → O β) : Env β := ⟨[(32, VS32 N zq92)], [], [], [], ⟨[], [], [], []⟩⟩
def E14 (N : Nat) : Env β := VE14 N (zj92 N)
def zb118 (N : Nat) (zq92 : (a0 : ByteArray) → (k : Tr → Bool → O β) → O β) (a0 : ByteArray) (k : Bool → O β) : O β :=
zq92 a0 fun r2 r3 =>
k r3
theorem zt118 (N : Nat) (a0 : ByteArray) (k : Bool → O β) : zj118 N a0 k = zb118 N (zj92 N) a0 k := by
  unfold zj118 zb118
  rfl
theorem ve14_0 (N : Nat) (zq92 : (a0 : ByteArray) → (k : Tr → Bool → O β) → O β)  (a0 : ByteArray) (K : TV → O β) : evFn lay (VE14 N zq92) Tryd.f14 [.v (.one (.str a0))] K = zb118 N zq92 a0 (fun z1 => K (.v (.one (.bool z1)))) := by kernel_rfl
theorem e14_0 (N : Nat)  (a0 : ByteArray) (K : TV → O β) : evFn lay (E14 N) Tryd.f14 [.v (.one (.str a0))] K = zj118 N a0 (fun z1 => K (.v (.one (.bool z1)))) := (ve14_0 N (zj92 N) a0 K).trans (zt118 N a0 (fun z1 => K (.v (.one (.bool z1))))).symm
theorem o14 (N : Nat) : SpecOK (β := β) inv Tryd.prog 14 (S14 N) := by
  refine spec_of lay_ok mixed (E := E14 N) (specs_loops (specs_cons (o32 N) specs_nil)) muts_nil gs_nil Tryd.func14 (by kernel_rfl) 0 (by kernel_rfl) trivial fun args K r h => ?_
  unfold S14 VS14 at h
  split at h
  · exact (e14_0 N _ _).trans h
  · cases h
def VSF40 (N : Nat) (zq120 : Nat → Tr → (Int → O β) → O β) (G : Nat) : Rv.Spec β := fun args K => match args with
  | [.v (.one (.tr true a0))] => zq120 G a0 (fun z1 => K (.v (.one (.int .i64 z1))))
  | _ => none
def SF40 (N : Nat) (G : Nat) : Rv.Spec β := VSF40 N (zj120 N) G
def VS40 (N : Nat) (zq120 : Nat → Tr → (Int → O β) → O β) : Rv.Spec β := VSF40 N zq120 N
def S40 (N : Nat) : Rv.Spec β := SF40 N N
def VE40 (N : Nat) (zq120 : Nat → Tr → (Int → O β) → O β) (G : Nat) : Env β := ⟨[(40, VSF40 N zq120 G)], [], [], [], ⟨[], [], [], []⟩⟩
def E40 (N : Nat) (G : Nat) : Env β := VE40 N (zj120 N) G
def zb119 (N : Nat) (self : Tr → (Int → O β) → O β) (a0 : Tr) (k : Int → O β) : O β :=
(gd ((!(Tr.isNil a0)))
((gd ((!(Tr.isNil a0)))
((gd ((!(Tr.isNil a0)))
((cond ((Tr.isNil ((Tr.l a0))))
(k 0)
((gd ((!(Tr.isNil a0)))
((gd ((!(Tr.isNil a0)))
((gd ((!(Tr.isNil a0)))
((gd ((!(Tr.isNil a0)))
((gd ((!(Tr.isNil a0)))
((gd ((!(Tr.isNil a0)))
(self ((Tr.l a0)) fun r2 =>
self ((Tr.r a0)) fun r3 =>
k ((w64 (1 + (mxI r2 r3))))))))))))))))))))))))
theorem zt119 (N : Nat) (self : Tr → (Int → O β) → O β) (a0 : Tr) (k : Int → O β) : zj119 N self a0 k = zb119 N self a0 k := by
  unfold zj119 zb119
  rfl
theorem ve40_0 (N : Nat) (zq120 : Nat → Tr → (Int → O β) → O β) (G : Nat)  (a0 : Tr) (K : TV → O β) : evFn lay (VE40 N zq120 G) Tryd.f40 [.v (.one (.tr true a0))] K = zb119 N (zq120 G) a0 (fun z1 => K (.v (.one (.int .i64 z1)))) := by kernel_rfl
theorem e40_0 (N : Nat) (G : Nat)  (a0 : Tr) (K : TV → O β) : evFn lay (E40 N G) Tryd.f40 [.v (.one (.tr true a0))] K = zj120 N (G + 1) a0 (fun z1 => K (.v (.one (.int .i64 z1)))) := (ve40_0 N (zj120 N) G a0 K).trans (zt119 N (zj120 N G) a0 (fun z1 => K (.v (.one (.int .i64 z1))))).symm
theorem z40 (N : Nat) : ∀ args K r, SF40 (β := β) N 0 args K = some r → (none : O β) = some r := by
  intro args K r h
  unfold SF40 VSF40 at h
  split at h <;> exact h
theorem of40 (N : Nat) : ∀ G, SpecOK (β := β) inv Tryd.prog 40 (SF40 N G) := by
  intro G
  induction G with
  | zero => exact s_zero Tryd.func40 (by kernel_rfl) (z40 N)
  | succ G ih =>
    refine spec_of lay_ok mixed (E := E40 N G) (specs_loops (specs_cons ih specs_nil)) muts_nil gs_nil Tryd.func40 (by kernel_rfl) 0 (by kernel_rfl) trivial fun args K r h => ?_
    unfold SF40 VSF40 at h
    split at h
    · exact (e40_0 N G _ _).trans h
    · cases h
theorem o40 (N : Nat) : SpecOK (β := β) inv Tryd.prog 40 (S40 N) := of40 N N
def VS15 (N : Nat) (zq122 : (a0 : ByteArray) → (k : Int → O β) → O β) : Rv.Spec β := fun args K => match args with
  | [.v (.one (.str a0))] => zq122 a0 (fun z1 => K (.v (.one (.int .i64 z1))))
  | _ => none
def S15 (N : Nat) : Rv.Spec β := VS15 N (zj122 N)
def VE15 (N : Nat) (zq92 : (a0 : ByteArray) → (k : Tr → Bool → O β) → O β) (zq120 : Nat → Tr → (Int → O β) → O β) : Env β := ⟨[(32, VS32 N zq92), (40, VS40 N zq120)], [], [], [], ⟨[], [], [], []⟩⟩
def E15 (N : Nat) : Env β := VE15 N (zj92 N) (zj120 N)
def zb122 (N : Nat) (zq92 : (a0 : ByteArray) → (k : Tr → Bool → O β) → O β) (zq120 : Nat → Tr → (Int → O β) → O β) (a0 : ByteArray) (k : Int → O β) : O β :=
zq92 a0 fun r2 r3 =>
(cond (!r3)
(k (-1))
(zq120 N r2 fun r4 =>
k r4))
theorem zt122 (N : Nat) (a0 : ByteArray) (k : Int → O β) : zj122 N a0 k = zb122 N (zj92 N) (zj120 N) a0 k := by
  unfold zj122 zb122
  rfl
theorem ve15_0 (N : Nat) (zq92 : (a0 : ByteArray) → (k : Tr → Bool → O β) → O β) (zq120 : Nat → Tr → (Int → O β) → O β)  (a0 : ByteArray) (K : TV → O β) : evFn lay (VE15 N zq92 zq120) Tryd.f15 [.v (.one (.str a0))] K = zb122 N zq92 zq120 a0 (fun z1 => K (.v (.one (.int .i64 z1)))) := by kernel_rfl
theorem e15_0 (N : Nat)  (a0 : ByteArray) (K : TV → O β) : evFn lay (E15 N) Tryd.f15 [.v (.one (.str a0))] K = zj122 N a0 (fun z1 => K (.v (.one (.int .i64 z1)))) := (ve15_0 N (zj92 N) (zj120 N) a0 K).trans (zt122 N a0 (fun z1 => K (.v (.one (.int .i64 z1))))).symm
theorem o15 (N : Nat) : SpecOK (β := β) inv Tryd.prog 15 (S15 N) := by
  refine spec_of lay_ok mixed (E := E15 N) (specs_loops (specs_cons (o32 N) (specs_cons (o40 N) specs_nil))) muts_nil gs_nil Tryd.func15 (by kernel_rfl) 0 (by kernel_rfl) trivial fun args K r h => ?_
  unfold S15 VS15 at h
  split at h
  · exact (e15_0 N _ _).trans h
  · cases h
def VSF41 (N : Nat) (zq124 : Nat → Tr → (Int → O β) → O β) (G : Nat) : Rv.Spec β := fun args K => match args with
  | [.v (.one (.tr true a0))] => zq124 G a0 (fun z1 => K (.v (.one (.int .i64 z1))))
  | _ => none
def SF41 (N : Nat) (G : Nat) : Rv.Spec β := VSF41 N (zj124 N) G
def VS41 (N : Nat) (zq124 : Nat → Tr → (Int → O β) → O β) : Rv.Spec β := VSF41 N zq124 N
def S41 (N : Nat) : Rv.Spec β := SF41 N N
def VE41 (N : Nat) (zq124 : Nat → Tr → (Int → O β) → O β) (G : Nat) : Env β := ⟨[(41, VSF41 N zq124 G)], [], [], [], ⟨[], [], [], []⟩⟩
def E41 (N : Nat) (G : Nat) : Env β := VE41 N (zj124 N) G
def zb123 (N : Nat) (self : Tr → (Int → O β) → O β) (a0 : Tr) (k : Int → O β) : O β :=
(gd ((!(Tr.isNil a0)))
((gd ((!(Tr.isNil a0)))
((gd ((!(Tr.isNil a0)))
((cond ((Tr.isNil ((Tr.l a0))))
(k 1)
((gd ((!(Tr.isNil a0)))
((gd ((!(Tr.isNil a0)))
((gd ((!(Tr.isNil a0)))
((gd ((!(Tr.isNil a0)))
((gd ((!(Tr.isNil a0)))
((gd ((!(Tr.isNil a0)))
(self ((Tr.l a0)) fun r2 =>
self ((Tr.r a0)) fun r3 =>
k ((w64 (r2 + r3)))))))))))))))))))))))
theorem zt123 (N : Nat) (self : Tr → (Int → O β) → O β) (a0 : Tr) (k : Int → O β) : zj123 N self a0 k = zb123 N self a0 k := by
  unfold zj123 zb123
  rfl
theorem ve41_0 (N : Nat) (zq124 : Nat → Tr → (Int → O β) → O β) (G : Nat)  (a0 : Tr) (K : TV → O β) : evFn lay (VE41 N zq124 G) Tryd.f41 [.v (.one (.tr true a0))] K = zb123 N (zq124 G) a0 (fun z1 => K (.v (.one (.int .i64 z1)))) := by kernel_rfl
theorem e41_0 (N : Nat) (G : Nat)  (a0 : Tr) (K : TV → O β) : evFn lay (E41 N G) Tryd.f41 [.v (.one (.tr true a0))] K = zj124 N (G + 1) a0 (fun z1 => K (.v (.one (.int .i64 z1)))) := (ve41_0 N (zj124 N) G a0 K).trans (zt123 N (zj124 N G) a0 (fun z1 => K (.v (.one (.int .i64 z1))))).symm
theorem z41 (N : Nat) : ∀ args K r, SF41 (β := β) N 0 args K = some r → (none : O β) = some r := by
  intro args K r h
  unfold SF41 VSF41 at h
  split at h <;> exact h
theorem of41 (N : Nat) : ∀ G, SpecOK (β := β) inv Tryd.prog 41 (SF41 N G) := by
  intro G
  induction G with
  | zero => exact s_zero Tryd.func41 (by kernel_rfl) (z41 N)
  | succ G ih =>
    refine spec_of lay_ok mixed (E := E41 N G) (specs_loops (specs_cons ih specs_nil)) muts_nil gs_nil Tryd.func41 (by kernel_rfl) 0 (by kernel_rfl) trivial fun args K r h => ?_
    unfold SF41 VSF41 at h
    split at h
    · exact (e41_0 N G _ _).trans h
    · cases h
theorem o41 (N : Nat) : SpecOK (β := β) inv Tryd.prog 41 (S41 N) := of41 N N
def VS16 (N : Nat) (zq126 : (a0 : ByteArray) → (k : Int → O β) → O β) : Rv.Spec β := fun args K => match args with
  | [.v (.one (.str a0))] => zq126 a0 (fun z1 => K (.v (.one (.int .i64 z1))))
  | _ => none
def S16 (N : Nat) : Rv.Spec β := VS16 N (zj126 N)
def VE16 (N : Nat) (zq92 : (a0 : ByteArray) → (k : Tr → Bool → O β) → O β) (zq124 : Nat → Tr → (Int → O β) → O β) : Env β := ⟨[(32, VS32 N zq92), (41, VS41 N zq124)], [], [], [], ⟨[], [], [], []⟩⟩
def E16 (N : Nat) : Env β := VE16 N (zj92 N) (zj124 N)
def zb126 (N : Nat) (zq92 : (a0 : ByteArray) → (k : Tr → Bool → O β) → O β) (zq124 : Nat → Tr → (Int → O β) → O β) (a0 : ByteArray) (k : Int → O β) : O β :=
zq92 a0 fun r2 r3 =>
(cond (!r3)
(k (-1))
(zq124 N r2 fun r4 =>
k r4))
theorem zt126 (N : Nat) (a0 : ByteArray) (k : Int → O β) : zj126 N a0 k = zb126 N (zj92 N) (zj124 N) a0 k := by
  unfold zj126 zb126
  rfl
theorem ve16_0 (N : Nat) (zq92 : (a0 : ByteArray) → (k : Tr → Bool → O β) → O β) (zq124 : Nat → Tr → (Int → O β) → O β)  (a0 : ByteArray) (K : TV → O β) : evFn lay (VE16 N zq92 zq124) Tryd.f16 [.v (.one (.str a0))] K = zb126 N zq92 zq124 a0 (fun z1 => K (.v (.one (.int .i64 z1)))) := by kernel_rfl
theorem e16_0 (N : Nat)  (a0 : ByteArray) (K : TV → O β) : evFn lay (E16 N) Tryd.f16 [.v (.one (.str a0))] K = zj126 N a0 (fun z1 => K (.v (.one (.int .i64 z1)))) := (ve16_0 N (zj92 N) (zj124 N) a0 K).trans (zt126 N a0 (fun z1 => K (.v (.one (.int .i64 z1))))).symm
theorem o16 (N : Nat) : SpecOK (β := β) inv Tryd.prog 16 (S16 N) := by
  refine spec_of lay_ok mixed (E := E16 N) (specs_loops (specs_cons (o32 N) (specs_cons (o41 N) specs_nil))) muts_nil gs_nil Tryd.func16 (by kernel_rfl) 0 (by kernel_rfl) trivial fun args K r h => ?_
  unfold S16 VS16 at h
  split at h
  · exact (e16_0 N _ _).trans h
  · cases h
def VS44 (N : Nat) (zq127 : (a0 : Int) → (k : Int → O β) → O β) : Rv.Spec β := fun args K => match args with
  | [.v (.one (.int .u64 a0))] => zq127 a0 (fun z1 => K (.v (.one (.int .i64 z1))))
  | _ => none
def S44 (N : Nat) : Rv.Spec β := VS44 N (zj127 N)
def VE44 (N : Nat) : Env β := ⟨[], [], [], [], ⟨[], [], [], []⟩⟩
def E44 (N : Nat) : Env β := VE44 N
def zb127 (N : Nat) (a0 : Int) (k : Int → O β) : O β :=
(cond ((decide (a0 ≥ 4294967296)))
((cond ((decide ((shrI .u64 a0 32) ≥ 65536)))
((cond ((decide ((shrI .u64 (shrI .u64 a0 32) 16) ≥ 256)))
((gd ((decide (0 ≤ (w8 ((shrI .u64 (shrI .u64 (shrI .u64 a0 32) 16) 8))))))
((gd ((decide ((w8 ((shrI .u64 (shrI .u64 (shrI .u64 a0 32) 16) 8))) < (len8.size : Int))))
(k ((w64 (56 + (w64 ((bt len8 (w8 ((shrI .u64 (shrI .u64 (shrI .u64 a0 32) 16) 8))))))))))))))
((gd ((decide (0 ≤ (w8 ((shrI .u64 (shrI .u64 a0 32) 16))))))
((gd ((decide ((w8 ((shrI .u64 (shrI .u64 a0 32) 16))) < (len8.size : Int))))
(k ((w64 (48 + (w64 ((bt len8 (w8 ((shrI .u64 (shrI .u64 a0 32) 16))))))))))))))))
((cond ((decide ((shrI .u64 a0 32) ≥ 256)))
((gd ((decide (0 ≤ (w8 ((shrI .u64 (shrI .u64 a0 32) 8))))))
((gd ((decide ((w8 ((shrI .u64 (shrI .u64 a0 32) 8))) < (len8.size : Int))))
(k ((w64 (40 + (w64 ((bt len8 (w8 ((shrI .u64 (shrI .u64 a0 32) 8))))))))))))))
((gd ((decide (0 ≤ (w8 ((shrI .u64 a0 32))))))
((gd ((decide ((w8 ((shrI .u64 a0 32))) < (len8.size : Int))))
(k ((w64 (32 + (w64 ((bt len8 (w8 ((shrI .u64 a0 32))))))))))))))))))
((cond ((decide (a0 ≥ 65536)))
((cond ((decide ((shrI .u64 a0 16) ≥ 256)))
((gd ((decide (0 ≤ (w8 ((shrI .u64 (shrI .u64 a0 16) 8))))))
((gd ((decide ((w8 ((shrI .u64 (shrI .u64 a0 16) 8))) < (len8.size : Int))))
(k ((w64 (24 + (w64 ((bt len8 (w8 ((shrI .u64 (shrI .u64 a0 16) 8))))))))))))))
((gd ((decide (0 ≤ (w8 ((shrI .u64 a0 16))))))
((gd ((decide ((w8 ((shrI .u64 a0 16))) < (len8.size : Int))))
(k ((w64 (16 + (w64 ((bt len8 (w8 ((shrI .u64 a0 16))))))))))))))))
((cond ((decide (a0 ≥ 256)))
((gd ((decide (0 ≤ (w8 ((shrI .u64 a0 8))))))
((gd ((decide ((w8 ((shrI .u64 a0 8))) < (len8.size : Int))))
(k ((w64 (8 + (w64 ((bt len8 (w8 ((shrI .u64 a0 8))))))))))))))
((gd ((decide (0 ≤ (w8 (a0)))))
((gd ((decide ((w8 (a0)) < (len8.size : Int))))
(k ((w64 (0 + (w64 ((bt len8 (w8 (a0))))))))))))))))))
theorem zt127 (N : Nat) (a0 : Int) (k : Int → O β) : zj127 N a0 k = zb127 N a0 k := by
  unfold zj127 zb127
  rfl
theorem ve44_0 (N : Nat)  (a0 : Int) (K : TV → O β) : evFn lay (VE44 N) Tryd.f44 [.v (.one (.int .u64 a0))] K = zb127 N a0 (fun z1 => K (.v (.one (.int .i64 z1)))) := by kernel_rfl
theorem e44_0 (N : Nat)  (a0 : Int) (K : TV → O β) : evFn lay (E44 N) Tryd.f44 [.v (.one (.int .u64 a0))] K = zj127 N a0 (fun z1 => K (.v (.one (.int .i64 z1)))) := (ve44_0 N a0 K).trans (zt127 N a0 (fun z1 => K (.v (.one (.int .i64 z1))))).symm
theorem o44 (N : Nat) : SpecOK (β := β) inv Tryd.prog 44 (S44 N) := by
  refine spec_of lay_ok mixed (E := E44 N) (specs_loops specs_nil) muts_nil gs_nil Tryd.func44 (by kernel_rfl) 0 (by kernel_rfl) trivial fun args K r h => ?_
  unfold S44 VS44 at h
  split at h
  · exact (e44_0 N _ _).trans h
  · cases h
def VS17 (N : Nat) (zq132 : (a0 : List Int) → (k : Int → O β) → O β) : Rv.Spec β := fun args K => match args with
  | [.v (.one (.sl 3 (.ints .i64 a0)))] => zq132 a0 (fun z1 => K (.v (.one (.int .i64 z1))))
  | _ => none
def S17 (N : Nat) : Rv.Spec β := VS17 N (zj132 N)
def h17_0_0  (v0 : List Int) (v1 : Int) (v2 : Int) (v3 : Mp) : St := ⟨tund :: tund :: tund :: .v (.one (.mp 0)) :: tund :: tund :: tund :: tund :: tund :: tund :: tund :: tund :: tund :: tund :: tund :: tund :: tund :: .v (.one (.sl 3 (.ints .i64 v0))) :: .v (.one (.int .i64 v1)) :: .v (.one (.int .i64 v2)) :: tund :: tund :: tund :: tund :: tund :: tund :: tund :: tund :: tund :: tund :: tund :: tund :: tund :: tund :: tund :: tund :: tund :: tund :: tund :: tund :: tund :: tund :: tund :: tund :: tund :: [], [.mp ⟨false, false⟩ v3]⟩
def x17_0_0_k0  (y0 : Mp) : St := ⟨tund :: tund :: tund :: .v (.one (.mp 0)) :: tund :: tund :: tund :: tund :: tund :: tund :: tund :: tund :: tund :: tund :: tund :: tund :: tund :: tund :: tund :: tund :: tund :: tund :: tund :: tund :: tund :: tund :: tund :: tund :: tund :: tund :: tund :: tund :: tund :: tund :: tund :: tund :: tund :: tund :: tund :: tund :: tund :: tund :: tund :: tund :: tund :: [], [.mp ⟨false, false⟩ y0]⟩
def h17_1_0  (v0 : Int) (v1 : List Int) (v2 : Int) (v3 : Int) (v4 : Mp) : St := ⟨tund :: tund :: tund :: .v (.one (.mp 0)) :: tund :: .v (.one (.int .i64 v0)) :: tund :: tund :: tund :: tund :: tund :: tund :: tund :: tund :: tund :: tund :: tund :: .v (.one (.sl 3 (.ints .i64 v1))) :: .v (.one (.int .i64 v2)) :: .v (.one (.int .i64 v3)) :: tund :: tund :: tund :: tund :: tund :: tund :: tund :: tund :: tund :: tund :: tund :: tund :: tund :: tund :: tund :: tund :: tund :: tund :: tund :: tund :: tund :: tund :: tund :: tund :: tund :: [], [.mp ⟨false, false⟩ v4]⟩
def x17_1_0_k0  (y0 : List Int) (y1 : Int) (y2 : Int) (y3 : Mp) : St := ⟨tund :: tund :: tund :: .v (.one (.mp 0)) :: tund :: tund :: tund :: tund :: tund :: tund :: tund :: tund :: tund :: tund :: tund :: tund :: tund :: .v (.one (.sl 3 (.ints .i64 y0))) :: .v (.one (.int .i64 y1)) :: .v (.one (.int .i64 y2)) :: tund :: tund :: tund :: tund :: tund :: tund :: tund :: tund :: tund :: tund :: tund :: tund :: tund :: tund :: tund :: tund :: tund :: tund :: tund :: tund :: tund :: tund :: tund :: tund :: tund :: [], [.mp ⟨false, false⟩ y3]⟩
theorem fl17_0_0 (s : St) : refSt (h17_0_0 [] 0 0 []) s = h17_0_0 (rInts (rowV (oneA (vT (nx tund s.tmps 17))))) (intS (oneA (vT (nx tund s.tmps 18)))) (intS (oneA (vT (nx tund s.tmps 19)))) (mpB (nx .dead s.blks 0)) := by kernel_rfl
def VLS17_0 (N : Nat) (zq131 : Nat → List Int → Int → Int → Mp → (Mp → O β) → O β) : LSpec β := fun s K => cond (shpSt (h17_0_0 [] 0 0 []) s) ((fun (v0 : List Int) (v1 : Int) (v2 : Int) (v3 : Mp) => zq131  N v0 v1 v2 v3 (fun y0 => K (.exit 0) (x17_0_0_k0  y0))) (rInts (rowV (oneA (vT (nx tund s.tmps 17))))) (intS (oneA (vT (nx tund s.tmps 18)))) (intS (oneA (vT (nx tund s.tmps 19)))) (mpB (nx .dead s.blks 0))) (none)
def LS17_0 (N : Nat) : LSpec β := VLS17_0 N (zj131 N)
theorem fl17_1_0 (s : St) : refSt (h17_1_0 0 [] 0 0 []) s = h17_1_0 (intS (oneA (vT (nx tund s.tmps 5)))) (rInts (rowV (oneA (vT (nx tund s.tmps 17))))) (intS (oneA (vT (nx tund s.tmps 18)))) (intS (oneA (vT (nx tund s.tmps 19)))) (mpB (nx .dead s.blks 0)) := by kernel_rfl
def VLS17_2 (N : Nat) (zq129 : Nat → Int → List Int → Int → Int → Mp → (List Int → Int → Int → Mp → O β) → O β) : LSpec β := fun s K => cond (shpSt (h17_1_0 0 [] 0 0 []) s) ((fun (v0 : Int) (v1 : List Int) (v2 : Int) (v3 : Int) (v4 : Mp) => zq129  N v0 v1 v2 v3 v4 (fun y0 y1 y2 y3 => K (.exit 2) (x17_1_0_k0  y0 y1 y2 y3))) (intS (oneA (vT (nx tund s.tmps 5)))) (rInts (rowV (oneA (vT (nx tund s.tmps 17))))) (intS (oneA (vT (nx tund s.tmps 18)))) (intS (oneA (vT (nx tund s.tmps 19)))) (mpB (nx .dead s.blks 0))) (none)
def LS17_2 (N : Nat) : LSpec β := VLS17_2 N (zj129 N)
def VE17 (N : Nat) (zq110 : (a0 : List Int) → (a1 : (Int → (Bool → O β) → O β)) → (k : Bool → O β) → O β) (zq105 : (a0 : Int) → (c0 : Int) → (c1 : Int) → (c2 : Int) → (c3 : Int) → (c4 : List Int) → (c5 : Int) → (k : Bool → O β) → O β) (zq106 : (a0 : Int) → (k : Bool → O β) → O β) (zq127 : (a0 : Int) → (k : Int → O β) → O β) (zq131 : Nat → List Int → Int → Int → Mp → (Mp → O β) → O β) (zq129 : Nat → Int → List Int → Int → Int → Mp → (List Int → Int → Int → Mp → O β) → O β) : Env β := ⟨[(42, VS42 N zq110 zq105 zq106), (43, VS43 N zq106), (44, VS44 N zq127)], [], [(0, VLS17_0 N zq131), (2, VLS17_2 N zq129)], [], ⟨[], [], [], []⟩⟩
def E17 (N : Nat) : Env β := VE17 N (zj110 N) (zj105 N) (zj106 N) (zj127 N) (zj131 N) (zj129 N)
def zb130 (N : Nat) (zq129 : Nat → Int → List Int → Int → Int → Mp → (List Int → Int → Int → Mp → O β) → O β)  (v0 : List Int) (v1 : Int) (v2 : Int) (v3 : Mp) (rec_ : List Int → Int → Int → Mp → O β) (k0 : Mp → O β) : O β :=
(cond ((decide (v2 < v1)))
((gd ((decide (0 ≤ v2)))
((gd ((decide (v2 < (v0.length : Int))))
(zq129  N ((rd 0 v0 v2)) v0 v1 v2 v3 (fun e4_0 e4_1 e4_2 e4_3 =>
rec_ e4_0 e4_1 ((w64 (e4_2 + 1))) e4_3))))))
(k0 v3))
theorem zt130 (N : Nat)  (v0 : List Int) (v1 : Int) (v2 : Int) (v3 : Mp) (rec_ : List Int → Int → Int → Mp → O β) (k0 : Mp → O β) : zj130 N v0 v1 v2 v3 rec_ k0 = zb130 N (zj129 N) v0 v1 v2 v3 rec_ k0 := by
  unfold zj130 zb130
  rfl
theorem vst17_0_0 (N : Nat) (zq110 : (a0 : List Int) → (a1 : (Int → (Bool → O β) → O β)) → (k : Bool → O β) → O β) (zq105 : (a0 : Int) → (c0 : Int) → (c1 : Int) → (c2 : Int) → (c3 : Int) → (c4 : List Int) → (c5 : Int) → (k : Bool → O β) → O β) (zq106 : (a0 : Int) → (k : Bool → O β) → O β) (zq127 : (a0 : Int) → (k : Int → O β) → O β) (zq131 : Nat → List Int → Int → Int → Mp → (Mp → O β) → O β) (zq129 : Nat → Int → List Int → Int → Int → Mp → (List Int → Int → Int → Mp → O β) → O β)  (v0 : List Int) (v1 : Int) (v2 : Int) (v3 : Mp) (rec_ : St → O β) (K : Exit → St → O β) :
    ev lay (VE17 N zq110 zq105 zq106 zq127 zq131 zq129) (retMask Tryd.f17) (lp Tryd.f17 0).body (lp Tryd.f17 0).ex ((lp Tryd.f17 0).lv (retMask Tryd.f17)) (h17_0_0  v0 v1 v2 v3) (nextR (fun s' => rec_ (s'.tidy ((lp Tryd.f17 0).lv (retMask Tryd.f17)))) K) = zb130 N zq129  v0 v1 v2 v3 (fun v0 v1 v2 v3 => rec_ (h17_0_0  v0 v1 v2 v3)) (fun y0 => K (.exit 0) (x17_0_0_k0  y0)) := by kernel_rfl
theorem st17_0_0 (N : Nat)  (v0 : List Int) (v1 : Int) (v2 : Int) (v3 : Mp) (rec_ : St → O β) (K : Exit → St → O β) :
    ev lay (E17 N) (retMask Tryd.f17) (lp Tryd.f17 0).body (lp Tryd.f17 0).ex ((lp Tryd.f17 0).lv (retMask Tryd.f17)) (h17_0_0  v0 v1 v2 v3) (nextR (fun s' => rec_ (s'.tidy ((lp Tryd.f17 0).lv (retMask Tryd.f17)))) K) = zj130 N  v0 v1 v2 v3 (fun v0 v1 v2 v3 => rec_ (h17_0_0  v0 v1 v2 v3)) (fun y0 => K (.exit 0) (x17_0_0_k0  y0)) := (vst17_0_0 N (zj110 N) (zj105 N) (zj106 N) (zj127 N) (zj131 N) (zj129 N) v0 v1 v2 v3 rec_ K).trans (zt130 N  v0 v1 v2 v3 (fun v0 v1 v2 v3 => rec_ (h17_0_0  v0 v1 v2 v3)) (fun y0 => K (.exit 0) (x17_0_0_k0  y0))).symm
theorem ro17_0_0 (N : Nat)  (K : Exit → St → O β) : ∀ (F : Nat) (v0 : List Int) (v1 : Int) (v2 : Int) (v3 : Mp), (lp Tryd.f17 0).rounds lay (E17 N) (retMask Tryd.f17) F (h17_0_0  v0 v1 v2 v3) K = zj131 N  F v0 v1 v2 v3 (fun y0 => K (.exit 0) (x17_0_0_k0  y0)) := by
  intro F
  induction F with
  | zero => intros; rfl
  | succ F ih =>
    intros
    rw [rounds_next]
    refine (st17_0_0 N  _ _ _ _ (fun s => (lp Tryd.f17 0).rounds lay (E17 N) (retMask Tryd.f17) F s K) K).trans ?_
    simp only [ih]
    rfl
theorem lk17_0 (N : Nat) : lookL (E17 (β := β) N).loops (lp Tryd.f17 0).id = LS17_0 N := by kernel_rfl
theorem rk17_0 (N : Nat) : RoundsOK lay (E17 (β := β) N) (retMask Tryd.f17) (lp Tryd.f17 0) := by
  intro s K r h
  rw [lk17_0] at h
  unfold LS17_0 VLS17_0 at h
  cases hb : shpSt (h17_0_0 [] 0 0 []) s with
  | true =>
    rw [hb, cond_true] at h
    exact ⟨N, by rw [← shpSt_ref hb, fl17_0_0 s]; exact (ro17_0_0 N  K N (rInts (rowV (oneA (vT (nx tund s.tmps 17))))) (intS (oneA (vT (nx tund s.tmps 18)))) (intS (oneA (vT (nx tund s.tmps 19)))) (mpB (nx .dead s.blks 0))).trans h⟩
  | false =>
  rw [hb, cond_false] at h
  clear hb
  cases h
def zb128 (N : Nat) (zq127 : (a0 : Int) → (k : Int → O β) → O β)  (v0 : Int) (v1 : List Int) (v2 : Int) (v3 : Int) (v4 : Mp) (rec_ : Int → List Int → Int → Int → Mp → O β) (k0 : List Int → Int → Int → Mp → O β) : O β :=
(cond ((v0 != 0))
(zq127 ((wu64 (v0))) fun r3 =>
(cond ((!(hasM ⟨false, false⟩ v4 r3 0)))
(k0 v1 v2 v3 ((putM ⟨false, false⟩ v4 r3 0 v0)))
(rec_ ((bits .xor .i64 v0 (getM ⟨false, false⟩ v4 r3 0))) v1 v2 v3 v4)))
(k0 v1 v2 v3 v4))
theorem zt128 (N : Nat)  (v0 : Int) (v1 : List Int) (v2 : Int) (v3 : Int) (v4 : Mp) (rec_ : Int → List Int → Int → Int → Mp → O β) (k0 : List Int → Int → Int → Mp → O β) : zj128 N v0 v1 v2 v3 v4 rec_ k0 = zb128 N (zj127 N) v0 v1 v2 v3 v4 rec_ k0 := by
  unfold zj128 zb128
  rfl
theorem vst17_1_0 (N : Nat) (zq110 : (a0 : List Int) → (a1 : (Int → (Bool → O β) → O β)) → (k : Bool → O β) → O β) (zq105 : (a0 : Int) → (c0 : Int) → (c1 : Int) → (c2 : Int) → (c3 : Int) → (c4 : List Int) → (c5 : Int) → (k : Bool → O β) → O β) (zq106 : (a0 : Int) → (k : Bool → O β) → O β) (zq127 : (a0 : Int) → (k : Int → O β) → O β) (zq131 : Nat → List Int → Int → Int → Mp → (Mp → O β) → O β) (zq129 : Nat → Int → List Int → Int → Int → Mp → (List Int → Int → Int → Mp → O β) → O β)  (v0 : Int) (v1 : List Int) (v2 : Int) (v3 : Int) (v4 : Mp) (rec_ : St → O β) (K : Exit → St → O β) :
    ev lay (VE17 N zq110 zq105 zq106 zq127 zq131 zq129) (retMask Tryd.f17) (lp Tryd.f17 1).body (lp Tryd.f17 1).ex ((lp Tryd.f17 1).lv (retMask Tryd.f17)) (h17_1_0  v0 v1 v2 v3 v4) (nextR (fun s' => rec_ (s'.tidy ((lp Tryd.f17 1).lv (retMask Tryd.f17)))) K) = zb128 N zq127  v0 v1 v2 v3 v4 (fun v0 v1 v2 v3 v4 => rec_ (h17_1_0  v0 v1 v2 v3 v4)) (fun y0 y1 y2 y3 => K (.exit 2) (x17_1_0_k0  y0 y1 y2 y3)) := by kernel_rfl
theorem st17_1_0 (N : Nat)  (v0 : Int) (v1 : List Int) (v2 : Int) (v3 : Int) (v4 : Mp) (rec_ : St → O β) (K : Exit → St → O β) :
    ev lay (E17 N) (retMask Tryd.f17) (lp Tryd.f17 1).body (lp Tryd.f17 1).ex ((lp Tryd.f17 1).lv (retMask Tryd.f17)) (h17_1_0  v0 v1 v2 v3 v4) (nextR (fun s' => rec_ (s'.tidy ((lp Tryd.f17 1).lv (retMask Tryd.f17)))) K) = zj128 N  v0 v1 v2 v3 v4 (fun v0 v1 v2 v3 v4 => rec_ (h17_1_0  v0 v1 v2 v3 v4)) (fun y0 y1 y2 y3 => K (.exit 2) (x17_1_0_k0  y0 y1 y2 y3)) := (vst17_1_0 N (zj110 N) (zj105 N) (zj106 N) (zj127 N) (zj131 N) (zj129 N) v0 v1 v2 v3 v4 rec_ K).trans (zt128 N  v0 v1 v2 v3 v4 (fun v0 v1 v2 v3 v4 => rec_ (h17_1_0  v0 v1 v2 v3 v4)) (fun y0 y1 y2 y3 => K (.exit 2) (x17_1_0_k0  y0 y1 y2 y3))).symm
theorem ro17_1_0 (N : Nat)  (K : Exit → St → O β) : ∀ (F : Nat) (v0 : Int) (v1 : List Int) (v2 : Int) (v3 : Int) (v4 : Mp), (lp Tryd.f17 1).rounds lay (E17 N) (retMask Tryd.f17) F (h17_1_0  v0 v1 v2 v3 v4) K = zj129 N  F v0 v1 v2 v3 v4 (fun y0 y1 y2 y3 => K (.exit 2) (x17_1_0_k0  y0 y1 y2 y3)) := by
  intro F
  induction F with
  | zero => intros; rfl
  | succ F ih =>
    intros
    rw [rounds_next]
    refine (st17_1_0 N  _ _ _ _ _ (fun s => (lp Tryd.f17 1).rounds lay (E17 N) (retMask Tryd.f17) F s K) K).trans ?_
    simp only [ih]
    rfl
theorem lk17_2 (N : Nat) : lookL (E17 (β := β) N).loops (lp Tryd.f17 1).id = LS17_2 N := by kernel_rfl
theorem rk17_2 (N : Nat) : RoundsOK lay (E17 (β := β) N) (retMask Tryd.f17) (lp Tryd.f17 1) := by
  intro s K r h
  rw [lk17_2] at h
  unfold LS17_2 VLS17_2 at h
  cases hb : shpSt (h17_1_0 0 [] 0 0 []) s with
  | true =>
    rw [hb, cond_true] at h
    exact ⟨N, by rw [← shpSt_ref hb, fl17_1_0 s]; exact (ro17_1_0 N  K N (intS (oneA (vT (nx tund s.tmps 5)))) (rInts (rowV (oneA (vT (nx tund s.tmps 17))))) (intS (oneA (vT (nx tund s.tmps 18)))) (intS (oneA (vT (nx tund s.tmps 19)))) (mpB (nx .dead s.blks 0))).trans h⟩
  | false =>
  rw [hb, cond_false] at h
  clear hb
  cases h
def zb132 (N : Nat) (zq110 : (a0 : List Int) → (a1 : (Int → (Bool → O β) → O β)) → (k : Bool → O β) → O β) (zq106 : (a0 : Int) → (k : Bool → O β) → O β) (zq131 : Nat → List Int → Int → Int → Mp → (Mp → O β) → O β) (a0 : List Int) (k : Int → O β) : O β :=
(cond ((decide ((a0.length : Int) > 32)))
(k (-1))
(zq110 a0 (fun x0 k => zq106 x0 k) fun r2 =>
(cond r2
(k (-1))
(zq131  N a0 ((a0.length : Int)) 0 (([] : Mp)) (fun e5_0 =>
k ((e5_0.length : Int)))))))
theorem zt132 (N : Nat) (a0 : List Int) (k : Int → O β) : zj132 N a0 k = zb132 N (zj110 N) (zj106 N) (zj131 N) a0 k := by
  unfold zj132 zb132
  rfl
theorem ve17_0 (N : Nat) (zq110 : (a0 : List Int) → (a1 : (Int → (Bool → O β) → O β)) → (k : Bool → O β) → O β) (zq105 : (a0 : Int) → (c0 : Int) → (c1 : Int) → (c2 : Int) → (c3 : Int) → (c4 : List Int) → (c5 : Int) → (k : Bool → O β) → O β) (zq106 : (a0 : Int) → (k : Bool → O β) → O β) (zq127 : (a0 : Int) → (k : Int → O β) → O β) (zq131 : Nat → List Int → Int → Int → Mp → (Mp → O β) → O β) (zq129 : Nat → Int → List Int → Int → Int → Mp → (List Int → Int → Int → Mp → O β) → O β)  (a0 : List Int) (K : TV → O β) : evFn lay (VE17 N zq110 zq105 zq106 zq127 zq131 zq129) Tryd.f17 [.v (.one (.sl 3 (.ints .i64 a0)))] K = zb132 N zq110 zq106 zq131 a0 (fun z1 => K (.v (.one (.int .i64 z1)))) := by kernel_rfl
theorem e17_0 (N : Nat)  (a0 : List Int) (K : TV → O β) : evFn lay (E17 N) Tryd.f17 [.v (.one (.sl 3 (.ints .i64 a0)))] K = zj132 N a0 (fun z1 => K (.v (.one (.int .i64 z1)))) := (ve17_0 N (zj110 N) (zj105 N) (zj106 N) (zj127 N) (zj131 N) (zj129 N) a0 K).trans (zt132 N a0 (fun z1 => K (.v (.one (.int .i64 z1))))).symm
theorem o17 (N : Nat) : SpecOK (β := β) inv Tryd.prog 17 (S17 N) := by
  refine spec_of lay_ok mixed (E := E17 N) (specs_loops (specs_cons (o42 N) (specs_cons (o43 N) (specs_cons (o44 N) specs_nil)))) muts_nil gs_nil Tryd.func17 (by kernel_rfl) 2 (by kernel_rfl) ⟨⟨trivial, rk17_0 N⟩, rk17_2 N⟩ fun args K r h => ?_
  unfold S17 VS17 at h
  split at h
  · exact (e17_0 N _ _).trans h
  · cases h
end Go.Proofs.YtddflpokemgnmaaDoor
