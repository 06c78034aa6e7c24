/- The functions that the claims reach answer as their texts do. -/
import Derived.Test.YtddflpokemgnmaaDoorE2
namespace Go.Proofs.YtddflpokemgnmaaDoor
open Go.Rv
set_option maxRecDepth 100000
set_option maxHeartbeats 2000000
set_option linter.unusedVariables false
variable {β : Type}
def VSF30 (N : Nat) (zq47 : Nat → Int → Int → Int → Int → Int → Mp → (Int → Int → Int → Int → Mp → O β) → O β) (G : Nat) : GSpec β := fun args bl K => match args, bl with
  | [.v (.one (.ptr 0 0)), .v (.agg [.int .i64 a0, .int .i64 a1])], [.pcells 0 83 [.int .i64 a2, .int .i64 a3, .int .i64 a4, .mp 1], .pmp 1 ⟨true, false⟩ a5] => zq47 G a0 a1 a2 a3 a4 a5 (fun y0 y1 y2 y3 y4 => K (.v (.one (.int .i64 y0))) [.pcells 0 83 [.int .i64 y1, .int .i64 y2, .int .i64 y3, .mp 1], .pmp 1 ⟨true, false⟩ y4])
  | _, _ => none
def SF30 (N : Nat) (G : Nat) : GSpec β := VSF30 N (zj47 N) G
def VS30 (N : Nat) (zq47 : Nat → Int → Int → Int → Int → Int → Mp → (Int → Int → Int → Int → Mp → O β) → O β) : GSpec β := VSF30 N zq47 N
def S30 (N : Nat) : GSpec β := SF30 N N
def h30_0_0  (v0 : Int) (v1 : Int) (v2 : Int) (v3 : Int) (v4 : Int) (v5 : Int) (v6 : Mp) (v7 : Int) (v8 : Int) (v9 : List Int) : St := ⟨.v (.one (.ptr 0 0)) :: tund :: tund :: .v (.one (.ptr 2 0)) :: tund :: tund :: tund :: .v (.one (.int .i64 v0)) :: tund :: tund :: tund :: tund :: tund :: tund :: tund :: tund :: tund :: tund :: tund :: tund :: tund :: tund :: tund :: tund :: tund :: tund :: tund :: tund :: tund :: tund :: .v (.one (.row 3)) :: .v (.one (.int .i64 v1)) :: .v (.one (.int .i64 v2)) :: tund :: tund :: tund :: tund :: tund :: tund :: tund :: tund :: tund :: tund :: tund :: tund :: tund :: tund :: tund :: tund :: tund :: tund :: tund :: tund :: tund :: tund :: tund :: tund :: tund :: tund :: tund :: tund :: tund :: tund :: tund :: tund :: tund :: tund :: [], [.pcells 0 83 [.int .i64 v3, .int .i64 v4, .int .i64 v5, .mp 1], .pmp 1 ⟨true, false⟩ v6, .cells 45 [.int .i64 v7, .int .i64 v8], .srow 5 (.ints .u8 v9)]⟩
def x30_0_0_k0  (y0 : Int) (y1 : Int) (y2 : Int) (y3 : Int) (y4 : Mp) (y5 : Int) (y6 : Int) : St := ⟨.v (.one (.ptr 0 0)) :: tund :: tund :: .v (.one (.ptr 2 0)) :: tund :: tund :: tund :: .v (.one (.int .i64 y0)) :: tund :: tund :: tund :: tund :: tund :: tund :: tund :: tund :: tund :: tund :: tund :: tund :: tund :: tund :: tund :: tund :: tund :: tund :: tund :: tund :: tund :: tund :: tund :: tund :: tund :: tund :: tund :: tund :: tund :: tund :: tund :: tund :: tund :: tund :: tund :: tund :: tund :: tund :: tund :: tund :: tund :: tund :: tund :: tund :: tund :: tund :: tund :: tund :: tund :: tund :: tund :: tund :: tund :: tund :: tund :: tund :: tund :: tund :: tund :: [], [.pcells 0 83 [.int .i64 y1, .int .i64 y2, .int .i64 y3, .mp 1], .pmp 1 ⟨true, false⟩ y4, .cells 45 [.int .i64 y5, .int .i64 y6]]⟩
def h30_1_0  (v0 : Int) (v1 : Int) (v2 : Int) (v3 : Int) (v4 : Int) (v5 : Int) (v6 : Int) (v7 : Int) (v8 : Mp) (v9 : Int) (v10 : Int) (v11 : List Int) : St := ⟨.v (.one (.ptr 0 0)) :: tund :: tund :: .v (.one (.ptr 2 0)) :: tund :: tund :: tund :: .v (.one (.int .i64 v0)) :: tund :: .v (.one (.int .u8 v1)) :: tund :: tund :: tund :: tund :: tund :: tund :: tund :: tund :: tund :: tund :: tund :: tund :: tund :: tund :: tund :: tund :: tund :: tund :: tund :: tund :: .v (.one (.row 3)) :: .v (.one (.int .i64 v2)) :: .v (.one (.int .i64 v3)) :: tund :: tund :: tund :: .v (.one (.int .i64 v4)) :: tund :: tund :: tund :: tund :: tund :: tund :: tund :: tund :: tund :: tund :: tund :: tund :: tund :: tund :: tund :: tund :: tund :: tund :: tund :: tund :: tund :: tund :: tund :: tund :: tund :: tund :: tund :: tund :: tund :: tund :: [], [.pcells 0 83 [.int .i64 v5, .int .i64 v6, .int .i64 v7, .mp 1], .pmp 1 ⟨true, false⟩ v8, .cells 45 [.int .i64 v9, .int .i64 v10], .srow 5 (.ints .u8 v11)]⟩
def x30_1_0_k0  (y0 : Int) (y1 : Int) (y2 : Int) (y3 : Int) (y4 : Int) (y5 : Int) (y6 : Mp) (y7 : Int) (y8 : Int) (y9 : List Int) : St := ⟨.v (.one (.ptr 0 0)) :: tund :: tund :: .v (.one (.ptr 2 0)) :: tund :: tund :: tund :: .v (.one (.int .i64 y0)) :: tund :: tund :: tund :: tund :: tund :: tund :: tund :: tund :: tund :: tund :: tund :: tund :: tund :: tund :: tund :: tund :: tund :: tund :: tund :: tund :: tund :: tund :: .v (.one (.row 3)) :: .v (.one (.int .i64 y1)) :: .v (.one (.int .i64 y2)) :: tund :: tund :: tund :: tund :: tund :: tund :: tund :: tund :: tund :: tund :: tund :: tund :: tund :: tund :: tund :: tund :: tund :: tund :: tund :: tund :: tund :: tund :: tund :: tund :: tund :: tund :: tund :: tund :: tund :: tund :: tund :: tund :: tund :: tund :: [], [.pcells 0 83 [.int .i64 y3, .int .i64 y4, .int .i64 y5, .mp 1], .pmp 1 ⟨true, false⟩ y6, .cells 45 [.int .i64 y7, .int .i64 y8], .srow 5 (.ints .u8 y9)]⟩
theorem fl30_0_0 (s : St) : refSt (h30_0_0 0 0 0 0 0 0 [] 0 0 []) s = h30_0_0 (intS (oneA (vT (nx tund s.tmps 7)))) (intS (oneA (vT (nx tund s.tmps 31)))) (intS (oneA (vT (nx tund s.tmps 32)))) (intS (nx .und (cellsB (nx .dead s.blks 0)) 0)) (intS (nx .und (cellsB (nx .dead s.blks 0)) 1)) (intS (nx .und (cellsB (nx .dead s.blks 0)) 2)) (mpB (nx .dead s.blks 1)) (intS (nx .und (cellsB (nx .dead s.blks 2)) 0)) (intS (nx .und (cellsB (nx .dead s.blks 2)) 1)) (rInts (rowB_ (nx .dead s.blks 3))) := by kernel_rfl
def VLS30_0 (N : Nat) (zq45 : (self : Int → Int → Int → Int → Int → Mp → (Int → Int → Int → Int → Mp → O β) → O β) → Nat → Int → Int → Int → Int → Int → Int → Mp → Int → Int → List Int → (Int → Int → Int → Int → Mp → Int → Int → O β) → O β) (zq47 : Nat → Int → Int → Int → Int → Int → Mp → (Int → Int → Int → Int → Mp → O β) → O β) (G : Nat) : LSpec β := fun s K => cond (shpSt (h30_0_0 0 0 0 0 0 0 [] 0 0 []) s) ((fun (v0 : Int) (v1 : Int) (v2 : Int) (v3 : Int) (v4 : Int) (v5 : Int) (v6 : Mp) (v7 : Int) (v8 : Int) (v9 : List Int) => zq45 (zq47 G)  N v0 v1 v2 v3 v4 v5 v6 v7 v8 v9 (fun y0 y1 y2 y3 y4 y5 y6 => K (.exit 0) (x30_0_0_k0  y0 y1 y2 y3 y4 y5 y6))) (intS (oneA (vT (nx tund s.tmps 7)))) (intS (oneA (vT (nx tund s.tmps 31)))) (intS (oneA (vT (nx tund s.tmps 32)))) (intS (nx .und (cellsB (nx .dead s.blks 0)) 0)) (intS (nx .und (cellsB (nx .dead s.blks 0)) 1)) (intS (nx .und (cellsB (nx .dead s.blks 0)) 2)) (mpB (nx .dead s.blks 1)) (intS (nx .und (cellsB (nx .dead s.blks 2)) 0)) (intS (nx .und (cellsB (nx .dead s.blks 2)) 1)) (rInts (rowB_ (nx .dead s.blks 3)))) (none)
def LS30_0 (N : Nat) (G : Nat) : LSpec β := VLS30_0 N (zj45 N) (zj47 N) G
theorem fl30_1_0 (s : St) : refSt (h30_1_0 0 0 0 0 0 0 0 0 [] 0 0 []) s = h30_1_0 (intS (oneA (vT (nx tund s.tmps 7)))) (intS (oneA (vT (nx tund s.tmps 9)))) (intS (oneA (vT (nx tund s.tmps 31)))) (intS (oneA (vT (nx tund s.tmps 32)))) (intS (oneA (vT (nx tund s.tmps 36)))) (intS (nx .und (cellsB (nx .dead s.blks 0)) 0)) (intS (nx .und (cellsB (nx .dead s.blks 0)) 1)) (intS (nx .und (cellsB (nx .dead s.blks 0)) 2)) (mpB (nx .dead s.blks 1)) (intS (nx .und (cellsB (nx .dead s.blks 2)) 0)) (intS (nx .und (cellsB (nx .dead s.blks 2)) 1)) (rInts (rowB_ (nx .dead s.blks 3))) := by kernel_rfl
def VLS30_2 (N : Nat) (zq43 : (self : Int → Int → Int → Int → Int → Mp → (Int → Int → Int → Int → Mp → O β) → O β) → Nat → Int → Int → Int → Int → Int → Int → Int → Int → Mp → Int → Int → List Int → (Int → Int → Int → Int → Int → Int → Mp → Int → Int → List Int → O β) → O β) (zq47 : Nat → Int → Int → Int → Int → Int → Mp → (Int → Int → Int → Int → Mp → O β) → O β) (G : Nat) : LSpec β := fun s K => cond (shpSt (h30_1_0 0 0 0 0 0 0 0 0 [] 0 0 []) s) ((fun (v0 : Int) (v1 : Int) (v2 : Int) (v3 : Int) (v4 : Int) (v5 : Int) (v6 : Int) (v7 : Int) (v8 : Mp) (v9 : Int) (v10 : Int) (v11 : List Int) => zq43 (zq47 G)  N v0 v1 v2 v3 v4 v5 v6 v7 v8 v9 v10 v11 (fun y0 y1 y2 y3 y4 y5 y6 y7 y8 y9 => K (.exit 2) (x30_1_0_k0  y0 y1 y2 y3 y4 y5 y6 y7 y8 y9))) (intS (oneA (vT (nx tund s.tmps 7)))) (intS (oneA (vT (nx tund s.tmps 9)))) (intS (oneA (vT (nx tund s.tmps 31)))) (intS (oneA (vT (nx tund s.tmps 32)))) (intS (oneA (vT (nx tund s.tmps 36)))) (intS (nx .und (cellsB (nx .dead s.blks 0)) 0)) (intS (nx .und (cellsB (nx .dead s.blks 0)) 1)) (intS (nx .und (cellsB (nx .dead s.blks 0)) 2)) (mpB (nx .dead s.blks 1)) (intS (nx .und (cellsB (nx .dead s.blks 2)) 0)) (intS (nx .und (cellsB (nx .dead s.blks 2)) 1)) (rInts (rowB_ (nx .dead s.blks 3)))) (none)
def LS30_2 (N : Nat) (G : Nat) : LSpec β := VLS30_2 N (zj43 N) (zj47 N) G
def VE30 (N : Nat) (zq37 : (a0 : Int) → (a1 : Int) → (a2 : Int) → (a3 : Int) → (k : Int → Int → Int → Int → Bool → O β) → O β) (zq45 : (self : Int → Int → Int → Int → Int → Mp → (Int → Int → Int → Int → Mp → O β) → O β) → Nat → Int → Int → Int → Int → Int → Int → Mp → Int → Int → List Int → (Int → Int → Int → Int → Mp → Int → Int → O β) → O β) (zq47 : Nat → Int → Int → Int → Int → Int → Mp → (Int → Int → Int → Int → Mp → O β) → O β) (zq43 : (self : Int → Int → Int → Int → Int → Mp → (Int → Int → Int → Int → Mp → O β) → O β) → Nat → Int → Int → Int → Int → Int → Int → Int → Int → Mp → Int → Int → List Int → (Int → Int → Int → Int → Int → Int → Mp → Int → Int → List Int → O β) → O β) (zq41 : (a0 : Int) → (a1 : Int) → (a2 : Int) → (a3 : Int) → (a4 : Int) → (a5 : Mp) → (k0 : Int → Int → Int → Int → Mp → O β) → O β) (G : Nat) : Env β := ⟨[(58, VS58 N zq37)], [], [(0, VLS30_0 N zq45 zq47 G), (2, VLS30_2 N zq43 zq47 G)], [(56, VS56 N zq41), (30, VSF30 N zq47 G)], ⟨[], [], [], []⟩⟩
def E30 (N : Nat) (G : Nat) : Env β := VE30 N (zj37 N) (zj45 N) (zj47 N) (zj43 N) (zj41 N) G
def zb44 (N : Nat) (zq43 : (self : Int → Int → Int → Int → Int → Mp → (Int → Int → Int → Int → Mp → O β) → O β) → Nat → Int → Int → Int → Int → Int → Int → Int → Int → Mp → Int → Int → List Int → (Int → Int → Int → Int → Int → Int → Mp → Int → Int → List Int → O β) → O β) (self : Int → Int → Int → Int → Int → Mp → (Int → Int → Int → Int → Mp → O β) → O β)  (v0 : Int) (v1 : Int) (v2 : Int) (v3 : Int) (v4 : Int) (v5 : Int) (v6 : Mp) (v7 : Int) (v8 : Int) (v9 : List Int) (rec_ : Int → Int → Int → Int → Int → Int → Mp → Int → Int → List Int → O β) (k0 : Int → Int → Int → Int → Mp → Int → Int → O β) : O β :=
(cond ((decide (v2 < v1)))
((gd ((decide (0 ≤ v2)))
((gd ((decide (v2 < (v9.length : Int))))
(zq43 self  N v0 ((rd 0 v9 v2)) v1 v2 0 v3 v4 v5 v6 v7 v8 v9 (fun e29_0 e29_1 e29_2 e29_3 e29_4 e29_5 e29_6 e29_7 e29_8 e29_9 =>
rec_ e29_0 e29_1 ((w64 (e29_2 + 1))) e29_3 e29_4 e29_5 e29_6 e29_7 e29_8 e29_9))))))
(k0 v0 v3 v4 v5 v6 v7 v8))
theorem zt44 (N : Nat) (self : Int → Int → Int → Int → Int → Mp → (Int → Int → Int → Int → Mp → O β) → O β)  (v0 : Int) (v1 : Int) (v2 : Int) (v3 : Int) (v4 : Int) (v5 : Int) (v6 : Mp) (v7 : Int) (v8 : Int) (v9 : List Int) (rec_ : Int → Int → Int → Int → Int → Int → Mp → Int → Int → List Int → O β) (k0 : Int → Int → Int → Int → Mp → Int → Int → O β) : zj44 N self v0 v1 v2 v3 v4 v5 v6 v7 v8 v9 rec_ k0 = zb44 N (zj43 N) self v0 v1 v2 v3 v4 v5 v6 v7 v8 v9 rec_ k0 := by
  unfold zj44 zb44
  rfl
theorem vst30_0_0 (N : Nat) (zq37 : (a0 : Int) → (a1 : Int) → (a2 : Int) → (a3 : Int) → (k : Int → Int → Int → Int → Bool → O β) → O β) (zq45 : (self : Int → Int → Int → Int → Int → Mp → (Int → Int → Int → Int → Mp → O β) → O β) → Nat → Int → Int → Int → Int → Int → Int → Mp → Int → Int → List Int → (Int → Int → Int → Int → Mp → Int → Int → O β) → O β) (zq47 : Nat → Int → Int → Int → Int → Int → Mp → (Int → Int → Int → Int → Mp → O β) → O β) (zq43 : (self : Int → Int → Int → Int → Int → Mp → (Int → Int → Int → Int → Mp → O β) → O β) → Nat → Int → Int → Int → Int → Int → Int → Int → Int → Mp → Int → Int → List Int → (Int → Int → Int → Int → Int → Int → Mp → Int → Int → List Int → O β) → O β) (zq41 : (a0 : Int) → (a1 : Int) → (a2 : Int) → (a3 : Int) → (a4 : Int) → (a5 : Mp) → (k0 : Int → Int → Int → Int → Mp → O β) → O β) (G : Nat)  (v0 : Int) (v1 : Int) (v2 : Int) (v3 : Int) (v4 : Int) (v5 : Int) (v6 : Mp) (v7 : Int) (v8 : Int) (v9 : List Int) (rec_ : St → O β) (K : Exit → St → O β) :
    ev lay (VE30 N zq37 zq45 zq47 zq43 zq41 G) (retMask Tryd.f30) (lp Tryd.f30 0).body (lp Tryd.f30 0).ex ((lp Tryd.f30 0).lv (retMask Tryd.f30)) (h30_0_0  v0 v1 v2 v3 v4 v5 v6 v7 v8 v9) (nextR (fun s' => rec_ (s'.tidy ((lp Tryd.f30 0).lv (retMask Tryd.f30)))) K) = zb44 N zq43 (zq47 G)  v0 v1 v2 v3 v4 v5 v6 v7 v8 v9 (fun v0 v1 v2 v3 v4 v5 v6 v7 v8 v9 => rec_ (h30_0_0  v0 v1 v2 v3 v4 v5 v6 v7 v8 v9)) (fun y0 y1 y2 y3 y4 y5 y6 => K (.exit 0) (x30_0_0_k0  y0 y1 y2 y3 y4 y5 y6)) := by kernel_rfl
theorem st30_0_0 (N : Nat) (G : Nat)  (v0 : Int) (v1 : Int) (v2 : Int) (v3 : Int) (v4 : Int) (v5 : Int) (v6 : Mp) (v7 : Int) (v8 : Int) (v9 : List Int) (rec_ : St → O β) (K : Exit → St → O β) :
    ev lay (E30 N G) (retMask Tryd.f30) (lp Tryd.f30 0).body (lp Tryd.f30 0).ex ((lp Tryd.f30 0).lv (retMask Tryd.f30)) (h30_0_0  v0 v1 v2 v3 v4 v5 v6 v7 v8 v9) (nextR (fun s' => rec_ (s'.tidy ((lp Tryd.f30 0).lv (retMask Tryd.f30)))) K) = zj44 N (zj47 N G)  v0 v1 v2 v3 v4 v5 v6 v7 v8 v9 (fun v0 v1 v2 v3 v4 v5 v6 v7 v8 v9 => rec_ (h30_0_0  v0 v1 v2 v3 v4 v5 v6 v7 v8 v9)) (fun y0 y1 y2 y3 y4 y5 y6 => K (.exit 0) (x30_0_0_k0  y0 y1 y2 y3 y4 y5 y6)) := (vst30_0_0 N (zj37 N) (zj45 N) (zj47 N) (zj43 N) (zj41 N) G v0 v1 v2 v3 v4 v5 v6 v7 v8 v9 rec_ K).trans (zt44 N (zj47 N G)  v0 v1 v2 v3 v4 v5 v6 v7 v8 v9 (fun v0 v1 v2 v3 v4 v5 v6 v7 v8 v9 => rec_ (h30_0_0  v0 v1 v2 v3 v4 v5 v6 v7 v8 v9)) (fun y0 y1 y2 y3 y4 y5 y6 => K (.exit 0) (x30_0_0_k0  y0 y1 y2 y3 y4 y5 y6))).symm
theorem ro30_0_0 (N : Nat) (G : Nat)  (K : Exit → St → O β) : ∀ (F : Nat) (v0 : Int) (v1 : Int) (v2 : Int) (v3 : Int) (v4 : Int) (v5 : Int) (v6 : Mp) (v7 : Int) (v8 : Int) (v9 : List Int), (lp Tryd.f30 0).rounds lay (E30 N G) (retMask Tryd.f30) F (h30_0_0  v0 v1 v2 v3 v4 v5 v6 v7 v8 v9) K = zj45 N (zj47 N G)  F v0 v1 v2 v3 v4 v5 v6 v7 v8 v9 (fun y0 y1 y2 y3 y4 y5 y6 => K (.exit 0) (x30_0_0_k0  y0 y1 y2 y3 y4 y5 y6)) := by
  intro F
  induction F with
  | zero => intros; rfl
  | succ F ih =>
    intros
    rw [rounds_next]
    refine (st30_0_0 N G  _ _ _ _ _ _ _ _ _ _ (fun s => (lp Tryd.f30 0).rounds lay (E30 N G) (retMask Tryd.f30) F s K) K).trans ?_
    simp only [ih]
    rfl
theorem lk30_0 (N : Nat) (G : Nat) : lookL (E30 (β := β) N G).loops (lp Tryd.f30 0).id = LS30_0 N G := by kernel_rfl
theorem rk30_0 (N : Nat) (G : Nat) : RoundsOK lay (E30 (β := β) N G) (retMask Tryd.f30) (lp Tryd.f30 0) := by
  intro s K r h
  rw [lk30_0] at h
  unfold LS30_0 VLS30_0 at h
  cases hb : shpSt (h30_0_0 0 0 0 0 0 0 [] 0 0 []) s with
  | true =>
    rw [hb, cond_true] at h
    exact ⟨N, by rw [← shpSt_ref hb, fl30_0_0 s]; exact (ro30_0_0 N G  K N (intS (oneA (vT (nx tund s.tmps 7)))) (intS (oneA (vT (nx tund s.tmps 31)))) (intS (oneA (vT (nx tund s.tmps 32)))) (intS (nx .und (cellsB (nx .dead s.blks 0)) 0)) (intS (nx .und (cellsB (nx .dead s.blks 0)) 1)) (intS (nx .und (cellsB (nx .dead s.blks 0)) 2)) (mpB (nx .dead s.blks 1)) (intS (nx .und (cellsB (nx .dead s.blks 2)) 0)) (intS (nx .und (cellsB (nx .dead s.blks 2)) 1)) (rInts (rowB_ (nx .dead s.blks 3)))).trans h⟩
  | false =>
  rw [hb, cond_false] at h
  clear hb
  cases h
def zb42 (N : Nat) (zq37 : (a0 : Int) → (a1 : Int) → (a2 : Int) → (a3 : Int) → (k : Int → Int → Int → Int → Bool → O β) → O β) (self : Int → Int → Int → Int → Int → Mp → (Int → Int → Int → Int → Mp → O β) → O β)  (v0 : Int) (v1 : Int) (v2 : Int) (v3 : Int) (v4 : Int) (v5 : Int) (v6 : Int) (v7 : Int) (v8 : Mp) (v9 : Int) (v10 : Int) (v11 : List Int) (rec_ : Int → Int → Int → Int → Int → Int → Int → Int → Mp → Int → Int → List Int → O β) (k0 : Int → Int → Int → Int → Int → Int → Mp → Int → Int → List Int → O β) : O β :=
(cond ((decide (v4 < 16)))
(zq37 v9 v10 v1 v4 fun r22 r23 r24 r25 r26 =>
(cond r26
(self r22 r23 v5 v6 v7 v8 (fun r27_0 r27_1 r27_2 r27_3 r27_4 =>
self r24 r25 r27_1 r27_2 r27_3 r27_4 (fun r28_0 r28_1 r28_2 r28_3 r28_4 =>
rec_ ((mnI v0 (w64 (1 + (mxI r27_0 r28_0))))) v1 v2 v3 ((w64 (v4 + 1))) r28_1 r28_2 r28_3 r28_4 v9 v10 v11)))
(rec_ v0 v1 v2 v3 ((w64 (v4 + 1))) v5 v6 v7 v8 v9 v10 v11)))
(k0 v0 v2 v3 v5 v6 v7 v8 v9 v10 v11))
theorem zt42 (N : Nat) (self : Int → Int → Int → Int → Int → Mp → (Int → Int → Int → Int → Mp → O β) → O β)  (v0 : Int) (v1 : Int) (v2 : Int) (v3 : Int) (v4 : Int) (v5 : Int) (v6 : Int) (v7 : Int) (v8 : Mp) (v9 : Int) (v10 : Int) (v11 : List Int) (rec_ : Int → Int → Int → Int → Int → Int → Int → Int → Mp → Int → Int → List Int → O β) (k0 : Int → Int → Int → Int → Int → Int → Mp → Int → Int → List Int → O β) : zj42 N self v0 v1 v2 v3 v4 v5 v6 v7 v8 v9 v10 v11 rec_ k0 = zb42 N (zj37 N) self v0 v1 v2 v3 v4 v5 v6 v7 v8 v9 v10 v11 rec_ k0 := by
  unfold zj42 zb42
  rfl
theorem vst30_1_0 (N : Nat) (zq37 : (a0 : Int) → (a1 : Int) → (a2 : Int) → (a3 : Int) → (k : Int → Int → Int → Int → Bool → O β) → O β) (zq45 : (self : Int → Int → Int → Int → Int → Mp → (Int → Int → Int → Int → Mp → O β) → O β) → Nat → Int → Int → Int → Int → Int → Int → Mp → Int → Int → List Int → (Int → Int → Int → Int → Mp → Int → Int → O β) → O β) (zq47 : Nat → Int → Int → Int → Int → Int → Mp → (Int → Int → Int → Int → Mp → O β) → O β) (zq43 : (self : Int → Int → Int → Int → Int → Mp → (Int → Int → Int → Int → Mp → O β) → O β) → Nat → Int → Int → Int → Int → Int → Int → Int → Int → Mp → Int → Int → List Int → (Int → Int → Int → Int → Int → Int → Mp → Int → Int → List Int → O β) → O β) (zq41 : (a0 : Int) → (a1 : Int) → (a2 : Int) → (a3 : Int) → (a4 : Int) → (a5 : Mp) → (k0 : Int → Int → Int → Int → Mp → O β) → O β) (G : Nat)  (v0 : Int) (v1 : Int) (v2 : Int) (v3 : Int) (v4 : Int) (v5 : Int) (v6 : Int) (v7 : Int) (v8 : Mp) (v9 : Int) (v10 : Int) (v11 : List Int) (rec_ : St → O β) (K : Exit → St → O β) :
    ev lay (VE30 N zq37 zq45 zq47 zq43 zq41 G) (retMask Tryd.f30) (lp Tryd.f30 1).body (lp Tryd.f30 1).ex ((lp Tryd.f30 1).lv (retMask Tryd.f30)) (h30_1_0  v0 v1 v2 v3 v4 v5 v6 v7 v8 v9 v10 v11) (nextR (fun s' => rec_ (s'.tidy ((lp Tryd.f30 1).lv (retMask Tryd.f30)))) K) = zb42 N zq37 (zq47 G)  v0 v1 v2 v3 v4 v5 v6 v7 v8 v9 v10 v11 (fun v0 v1 v2 v3 v4 v5 v6 v7 v8 v9 v10 v11 => rec_ (h30_1_0  v0 v1 v2 v3 v4 v5 v6 v7 v8 v9 v10 v11)) (fun y0 y1 y2 y3 y4 y5 y6 y7 y8 y9 => K (.exit 2) (x30_1_0_k0  y0 y1 y2 y3 y4 y5 y6 y7 y8 y9)) := by kernel_rfl
theorem st30_1_0 (N : Nat) (G : Nat)  (v0 : Int) (v1 : Int) (v2 : Int) (v3 : Int) (v4 : Int) (v5 : Int) (v6 : Int) (v7 : Int) (v8 : Mp) (v9 : Int) (v10 : Int) (v11 : List Int) (rec_ : St → O β) (K : Exit → St → O β) :
    ev lay (E30 N G) (retMask Tryd.f30) (lp Tryd.f30 1).body (lp Tryd.f30 1).ex ((lp Tryd.f30 1).lv (retMask Tryd.f30)) (h30_1_0  v0 v1 v2 v3 v4 v5 v6 v7 v8 v9 v10 v11) (nextR (fun s' => rec_ (s'.tidy ((lp Tryd.f30 1).lv (retMask Tryd.f30)))) K) = zj42 N (zj47 N G)  v0 v1 v2 v3 v4 v5 v6 v7 v8 v9 v10 v11 (fun v0 v1 v2 v3 v4 v5 v6 v7 v8 v9 v10 v11 => rec_ (h30_1_0  v0 v1 v2 v3 v4 v5 v6 v7 v8 v9 v10 v11)) (fun y0 y1 y2 y3 y4 y5 y6 y7 y8 y9 => K (.exit 2) (x30_1_0_k0  y0 y1 y2 y3 y4 y5 y6 y7 y8 y9)) := (vst30_1_0 N (zj37 N) (zj45 N) (zj47 N) (zj43 N) (zj41 N) G v0 v1 v2 v3 v4 v5 v6 v7 v8 v9 v10 v11 rec_ K).trans (zt42 N (zj47 N G)  v0 v1 v2 v3 v4 v5 v6 v7 v8 v9 v10 v11 (fun v0 v1 v2 v3 v4 v5 v6 v7 v8 v9 v10 v11 => rec_ (h30_1_0  v0 v1 v2 v3 v4 v5 v6 v7 v8 v9 v10 v11)) (fun y0 y1 y2 y3 y4 y5 y6 y7 y8 y9 => K (.exit 2) (x30_1_0_k0  y0 y1 y2 y3 y4 y5 y6 y7 y8 y9))).symm
theorem ro30_1_0 (N : Nat) (G : Nat)  (K : Exit → St → O β) : ∀ (F : Nat) (v0 : Int) (v1 : Int) (v2 : Int) (v3 : Int) (v4 : Int) (v5 : Int) (v6 : Int) (v7 : Int) (v8 : Mp) (v9 : Int) (v10 : Int) (v11 : List Int), (lp Tryd.f30 1).rounds lay (E30 N G) (retMask Tryd.f30) F (h30_1_0  v0 v1 v2 v3 v4 v5 v6 v7 v8 v9 v10 v11) K = zj43 N (zj47 N G)  F v0 v1 v2 v3 v4 v5 v6 v7 v8 v9 v10 v11 (fun y0 y1 y2 y3 y4 y5 y6 y7 y8 y9 => K (.exit 2) (x30_1_0_k0  y0 y1 y2 y3 y4 y5 y6 y7 y8 y9)) := by
  intro F
  induction F with
  | zero => intros; rfl
  | succ F ih =>
    intros
    rw [rounds_next]
    refine (st30_1_0 N G  _ _ _ _ _ _ _ _ _ _ _ _ (fun s => (lp Tryd.f30 1).rounds lay (E30 N G) (retMask Tryd.f30) F s K) K).trans ?_
    simp only [ih]
    rfl
theorem lk30_2 (N : Nat) (G : Nat) : lookL (E30 (β := β) N G).loops (lp Tryd.f30 1).id = LS30_2 N G := by kernel_rfl
theorem rk30_2 (N : Nat) (G : Nat) : RoundsOK lay (E30 (β := β) N G) (retMask Tryd.f30) (lp Tryd.f30 1) := by
  intro s K r h
  rw [lk30_2] at h
  unfold LS30_2 VLS30_2 at h
  cases hb : shpSt (h30_1_0 0 0 0 0 0 0 0 0 [] 0 0 []) s with
  | true =>
    rw [hb, cond_true] at h
    exact ⟨N, by rw [← shpSt_ref hb, fl30_1_0 s]; exact (ro30_1_0 N G  K N (intS (oneA (vT (nx tund s.tmps 7)))) (intS (oneA (vT (nx tund s.tmps 9)))) (intS (oneA (vT (nx tund s.tmps 31)))) (intS (oneA (vT (nx tund s.tmps 32)))) (intS (oneA (vT (nx tund s.tmps 36)))) (intS (nx .und (cellsB (nx .dead s.blks 0)) 0)) (intS (nx .und (cellsB (nx .dead s.blks 0)) 1)) (intS (nx .und (cellsB (nx .dead s.blks 0)) 2)) (mpB (nx .dead s.blks 1)) (intS (nx .und (cellsB (nx .dead s.blks 2)) 0)) (intS (nx .und (cellsB (nx .dead s.blks 2)) 1)) (rInts (rowB_ (nx .dead s.blks 3)))).trans h⟩
  | false =>
  rw [hb, cond_false] at h
  clear hb
  cases h
def zb46 (N : Nat) (zq41 : (a0 : Int) → (a1 : Int) → (a2 : Int) → (a3 : Int) → (a4 : Int) → (a5 : Mp) → (k0 : Int → Int → Int → Int → Mp → O β) → O β) (zq45 : (self : Int → Int → Int → Int → Int → Mp → (Int → Int → Int → Int → Mp → O β) → O β) → Nat → Int → Int → Int → Int → Int → Int → Mp → Int → Int → List Int → (Int → Int → Int → Int → Mp → Int → Int → O β) → O β) (self : Int → Int → Int → Int → Int → Mp → (Int → Int → Int → Int → Mp → O β) → O β) (a0 : Int) (a1 : Int) (a2 : Int) (a3 : Int) (a4 : Int) (a5 : Mp) (k0 : Int → Int → Int → Int → Mp → O β) : O β :=
(cond ((hasM ⟨true, false⟩ a5 a0 a1))
(k0 ((getM ⟨true, false⟩ a5 a0 a1)) a2 a3 a4 a5)
(zq41 a0 a1 a2 a3 a4 a5 (fun r21_0 r21_1 r21_2 r21_3 r21_4 =>
(cond ((decide (r21_0 < 0)))
(zq45 self  N 4 (((((([] : List Int) ++ [65]) ++ [66])).length : Int)) 0 r21_1 r21_2 r21_3 r21_4 a0 a1 (((([] : List Int) ++ [65]) ++ [66])) (fun e30_0 e30_1 e30_2 e30_3 e30_4 e30_5 e30_6 =>
k0 e30_0 e30_1 e30_2 e30_3 ((putM ⟨true, false⟩ e30_4 e30_5 e30_6 e30_0))))
(k0 0 r21_1 r21_2 r21_3 ((putM ⟨true, false⟩ r21_4 a0 a1 0)))))))
theorem zt46 (N : Nat) (self : Int → Int → Int → Int → Int → Mp → (Int → Int → Int → Int → Mp → O β) → O β) (a0 : Int) (a1 : Int) (a2 : Int) (a3 : Int) (a4 : Int) (a5 : Mp) (k0 : Int → Int → Int → Int → Mp → O β) : zj46 N self a0 a1 a2 a3 a4 a5 k0 = zb46 N (zj41 N) (zj45 N) self a0 a1 a2 a3 a4 a5 k0 := by
  unfold zj46 zb46
  rfl
theorem ve30_0 (N : Nat) (zq37 : (a0 : Int) → (a1 : Int) → (a2 : Int) → (a3 : Int) → (k : Int → Int → Int → Int → Bool → O β) → O β) (zq45 : (self : Int → Int → Int → Int → Int → Mp → (Int → Int → Int → Int → Mp → O β) → O β) → Nat → Int → Int → Int → Int → Int → Int → Mp → Int → Int → List Int → (Int → Int → Int → Int → Mp → Int → Int → O β) → O β) (zq47 : Nat → Int → Int → Int → Int → Int → Mp → (Int → Int → Int → Int → Mp → O β) → O β) (zq43 : (self : Int → Int → Int → Int → Int → Mp → (Int → Int → Int → Int → Mp → O β) → O β) → Nat → Int → Int → Int → Int → Int → Int → Int → Int → Mp → Int → Int → List Int → (Int → Int → Int → Int → Int → Int → Mp → Int → Int → List Int → O β) → O β) (zq41 : (a0 : Int) → (a1 : Int) → (a2 : Int) → (a3 : Int) → (a4 : Int) → (a5 : Mp) → (k0 : Int → Int → Int → Int → Mp → O β) → O β) (G : Nat) (a0 : Int) (a1 : Int) (a2 : Int) (a3 : Int) (a4 : Int) (a5 : Mp) (K : TV → List Blk → O β) : evFnG lay (VE30 N zq37 zq45 zq47 zq43 zq41 G) Tryd.f30 [.v (.one (.ptr 0 0)), .v (.agg [.int .i64 a0, .int .i64 a1])] [.pcells 0 83 [.int .i64 a2, .int .i64 a3, .int .i64 a4, .mp 1], .pmp 1 ⟨true, false⟩ a5] K = zb46 N zq41 zq45 (zq47 G) a0 a1 a2 a3 a4 a5 (fun y0 y1 y2 y3 y4 => K (.v (.one (.int .i64 y0))) [.pcells 0 83 [.int .i64 y1, .int .i64 y2, .int .i64 y3, .mp 1], .pmp 1 ⟨true, false⟩ y4]) := by kernel_rfl
theorem e30_0 (N : Nat) (G : Nat) (a0 : Int) (a1 : Int) (a2 : Int) (a3 : Int) (a4 : Int) (a5 : Mp) (K : TV → List Blk → O β) : evFnG lay (E30 N G) Tryd.f30 [.v (.one (.ptr 0 0)), .v (.agg [.int .i64 a0, .int .i64 a1])] [.pcells 0 83 [.int .i64 a2, .int .i64 a3, .int .i64 a4, .mp 1], .pmp 1 ⟨true, false⟩ a5] K = zj47 N (G + 1) a0 a1 a2 a3 a4 a5 (fun y0 y1 y2 y3 y4 => K (.v (.one (.int .i64 y0))) [.pcells 0 83 [.int .i64 y1, .int .i64 y2, .int .i64 y3, .mp 1], .pmp 1 ⟨true, false⟩ y4]) := (ve30_0 N (zj37 N) (zj45 N) (zj47 N) (zj43 N) (zj41 N) G a0 a1 a2 a3 a4 a5 K).trans (zt46 N (zj47 N G) a0 a1 a2 a3 a4 a5 (fun y0 y1 y2 y3 y4 => K (.v (.one (.int .i64 y0))) [.pcells 0 83 [.int .i64 y1, .int .i64 y2, .int .i64 y3, .mp 1], .pmp 1 ⟨true, false⟩ y4])).symm
theorem z30 (N : Nat) : ∀ args bl K r, SF30 (β := β) N 0 args bl K = some r → (none : O β) = some r := by
  intro args bl K r h
  unfold SF30 VSF30 at h
  split at h <;> exact h
theorem of30 (N : Nat) : ∀ G, GOK (β := β) inv Tryd.prog 30 (SF30 N G) := by
  intro G
  induction G with
  | zero => exact g_zero Tryd.func30 (by kernel_rfl) (z30 N)
  | succ G ih =>
    refine g_of lay_ok mixed (E := E30 N G) (specs_loops (specs_cons (o58 N) specs_nil)) muts_nil (gs_cons (o56 N) (gs_cons ih gs_nil)) Tryd.func30 (by kernel_rfl) 2 (by kernel_rfl) ⟨⟨trivial, rk30_0 N G⟩, rk30_2 N G⟩ fun args bl K r h => ?_
    unfold SF30 VSF30 at h
    split at h
    · exact (e30_0 N G _ _ _ _ _ _ _).trans h
    · cases h
theorem o30 (N : Nat) : GOK (β := β) inv Tryd.prog 30 (S30 N) := of30 N N
end Go.Proofs.YtddflpokemgnmaaDoor
