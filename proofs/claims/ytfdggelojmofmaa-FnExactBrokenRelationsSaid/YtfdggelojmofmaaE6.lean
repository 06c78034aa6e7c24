/- The functions that the claims reach answer as their texts do. -/
import Derived.Test.YtfdggelojmofmaaE5
namespace Go.Proofs.Ytfdggelojmofmaa
open Go.Rv
set_option maxRecDepth 100000
set_option maxHeartbeats 2000000
set_option linter.unusedVariables false
def VSF175 {β : Type} (N : Nat) (zq122 : Nat → Int → Int → Int → Int → Mp → Mp → (Int → Int → Int → Mp → Mp → Option β) → Option β) (G : Nat) : GSpec β := fun args bl K => match args, bl with
  | [.v (.one (.ptr 0 0)), .v (.agg [.int .i64 a0, .int .i64 a1])], [.pcells 0 168 [.int .i64 a2, .int .i64 a3, .mp 1, .mp 2], .pmp 1 ⟨true, false⟩ a4, .pmp 2 ⟨true, false⟩ a5] => zq122 G a0 a1 a2 a3 a4 a5 (fun y0 y1 y2 y3 y4 => K (.v (.one (.int .i64 y0))) [.pcells 0 168 [.int .i64 y1, .int .i64 y2, .mp 1, .mp 2], .pmp 1 ⟨true, false⟩ y3, .pmp 2 ⟨true, false⟩ y4])
  | _, _ => none
def SF175 {β : Type} (N : Nat) (G : Nat) : GSpec β := VSF175 N (zj122 N) G
def VS175 {β : Type} (N : Nat) (zq122 : Nat → Int → Int → Int → Int → Mp → Mp → (Int → Int → Int → Mp → Mp → Option β) → Option β) : GSpec β := VSF175 N zq122 N
def S175 {β : Type} (N : Nat) : GSpec β := SF175 N N
def h175_0_0  (v0 : Int) (v1 : Int) (v2 : Int) (v3 : Int) (v4 : Int) (v5 : Mp) (v6 : Mp) (v7 : Int) (v8 : Int) : St := ⟨.v (.one (.ptr 0 0)) :: tund :: tund :: .v (.one (.ptr 3 0)) :: tund :: tund :: tund :: .v (.one (.int .i64 v0)) :: tund :: tund :: tund :: tund :: tund :: tund :: tund :: tund :: tund :: tund :: tund :: tund :: tund :: tund :: tund :: tund :: tund :: tund :: tund :: tund :: tund :: tund :: tund :: tund :: tund :: tund :: tund :: tund :: tund :: tund :: tund :: .v (.one (.int .i64 v1)) :: .v (.one (.int .i64 v2)) :: tund :: tund :: tund :: tund :: tund :: tund :: tund :: tund :: tund :: tund :: tund :: tund :: tund :: tund :: tund :: tund :: tund :: tund :: tund :: tund :: tund :: tund :: tund :: tund :: tund :: tund :: tund :: tund :: tund :: tund :: [], [.pcells 0 168 [.int .i64 v3, .int .i64 v4, .mp 1, .mp 2], .pmp 1 ⟨true, false⟩ v5, .pmp 2 ⟨true, false⟩ v6, .cells 150 [.int .i64 v7, .int .i64 v8]]⟩
def x175_0_0_k0  (y0 : Int) (y1 : Int) (y2 : Int) (y3 : Mp) (y4 : Mp) (y5 : Int) (y6 : Int) : St := ⟨.v (.one (.ptr 0 0)) :: tund :: tund :: .v (.one (.ptr 3 0)) :: tund :: tund :: tund :: .v (.one (.int .i64 y0)) :: tund :: tund :: tund :: tund :: tund :: tund :: tund :: tund :: tund :: tund :: tund :: tund :: tund :: tund :: tund :: tund :: tund :: tund :: tund :: tund :: tund :: tund :: tund :: tund :: tund :: tund :: tund :: tund :: tund :: tund :: tund :: tund :: tund :: tund :: tund :: tund :: tund :: tund :: tund :: tund :: tund :: tund :: tund :: tund :: tund :: tund :: tund :: tund :: tund :: tund :: tund :: tund :: tund :: tund :: tund :: tund :: tund :: tund :: tund :: tund :: tund :: tund :: tund :: [], [.pcells 0 168 [.int .i64 y1, .int .i64 y2, .mp 1, .mp 2], .pmp 1 ⟨true, false⟩ y3, .pmp 2 ⟨true, false⟩ y4, .cells 150 [.int .i64 y5, .int .i64 y6]]⟩
theorem fl175_0_0 (s : St) : refSt (h175_0_0 0 0 0 0 0 [] [] 0 0) s = h175_0_0 (intS (oneA (vT (nx tund s.tmps 7)))) (intS (oneA (vT (nx tund s.tmps 39)))) (intS (oneA (vT (nx tund s.tmps 40)))) (intS (nx .und (cellsB (nx .dead s.blks 0)) 0)) (intS (nx .und (cellsB (nx .dead s.blks 0)) 1)) (mpB (nx .dead s.blks 1)) (mpB (nx .dead s.blks 2)) (intS (nx .und (cellsB (nx .dead s.blks 3)) 0)) (intS (nx .und (cellsB (nx .dead s.blks 3)) 1)) := by kernel_rfl
def VLS175_0 {β : Type} (N : Nat) (zq120 : (self : Int → Int → Int → Int → Mp → Mp → (Int → Int → Int → Mp → Mp → Option β) → Option β) → Nat → Int → Int → Int → Int → Int → Mp → Mp → Int → Int → (Int → Int → Int → Mp → Mp → Int → Int → Option β) → Option β) (zq122 : Nat → Int → Int → Int → Int → Mp → Mp → (Int → Int → Int → Mp → Mp → Option β) → Option β) (G : Nat) : LSpec β := fun s K => cond (shpSt (h175_0_0 0 0 0 0 0 [] [] 0 0) s) ((fun (v0 : Int) (v1 : Int) (v2 : Int) (v3 : Int) (v4 : Int) (v5 : Mp) (v6 : Mp) (v7 : Int) (v8 : Int) => zq120 (zq122 G)  N v0 v1 v2 v3 v4 v5 v6 v7 v8 (fun y0 y1 y2 y3 y4 y5 y6 => K (.exit 0) (x175_0_0_k0  y0 y1 y2 y3 y4 y5 y6))) (intS (oneA (vT (nx tund s.tmps 7)))) (intS (oneA (vT (nx tund s.tmps 39)))) (intS (oneA (vT (nx tund s.tmps 40)))) (intS (nx .und (cellsB (nx .dead s.blks 0)) 0)) (intS (nx .und (cellsB (nx .dead s.blks 0)) 1)) (mpB (nx .dead s.blks 1)) (mpB (nx .dead s.blks 2)) (intS (nx .und (cellsB (nx .dead s.blks 3)) 0)) (intS (nx .und (cellsB (nx .dead s.blks 3)) 1))) (none)
def LS175_0 {β : Type} (N : Nat) (G : Nat) : LSpec β := VLS175_0 N (zj120 N) (zj122 N) G
def VE175 {β : Type} (N : Nat) (zq109 : (a0 : Int) → (a1 : Int) → (a2 : Int) → (a3 : Int) → (k : Int → Option β) → Option β) (zq118 : (a0 : Int) → (a1 : Int) → (a2 : Int) → (a3 : Int) → (k : Int → Int → Option β) → Option β) (zq120 : (self : Int → Int → Int → Int → Mp → Mp → (Int → Int → Int → Mp → Mp → Option β) → Option β) → Nat → Int → Int → Int → Int → Int → Mp → Mp → Int → Int → (Int → Int → Int → Mp → Mp → Int → Int → Option β) → Option β) (zq122 : Nat → Int → Int → Int → Int → Mp → Mp → (Int → Int → Int → Mp → Mp → Option β) → Option β) (G : Nat) : Env β := ⟨[(203, VS203 N zq109), (204, VS204 N zq118)], [], [(0, VLS175_0 N zq120 zq122 G)], [(175, VSF175 N zq122 G)], ⟨[], [], [], [61]⟩⟩
def E175 {β : Type} (N : Nat) (G : Nat) : Env β := VE175 N (zj109 N) (zj118 N) (zj120 N) (zj122 N) G
def zb119 {β : Type} (N : Nat) (zq118 : (a0 : Int) → (a1 : Int) → (a2 : Int) → (a3 : Int) → (k : Int → Int → Option β) → Option β) (self : Int → Int → Int → Int → Mp → Mp → (Int → Int → Int → Mp → Mp → Option β) → Option β)  (v0 : Int) (v1 : Int) (v2 : Int) (v3 : Int) (v4 : Int) (v5 : Mp) (v6 : Mp) (v7 : Int) (v8 : Int) (rec_ : Int → Int → Int → Int → Int → Mp → Mp → Int → Int → Option β) (k0 : Int → Int → Int → Mp → Mp → Int → Int → Option β) : Option β :=
(cond ((decide (v2 < v1)))
((gd ((decide (0 ≤ v2)))
((cond (((bits .and .i64 (shrI .i64 v7 v2) 1) == 0))
(zq118 v7 v8 v2 0 fun r6 r7 =>
self r6 r7 v3 v4 v5 v6 (fun r8_0 r8_1 r8_2 r8_3 r8_4 =>
zq118 v7 v8 v2 1 fun r9 r10 =>
self r9 r10 r8_1 r8_2 r8_3 r8_4 (fun r11_0 r11_1 r11_2 r11_3 r11_4 =>
rec_ ((mnI v0 (w64 (1 + (mxI r8_0 r11_0))))) v1 ((w64 (v2 + 1))) r11_1 r11_2 r11_3 r11_4 v7 v8)))
(rec_ v0 v1 ((w64 (v2 + 1))) v3 v4 v5 v6 v7 v8)))))
(k0 v0 v3 v4 v5 v6 v7 v8))
theorem zt119 {β : Type} (N : Nat) (self : Int → Int → Int → Int → Mp → Mp → (Int → Int → Int → Mp → Mp → Option β) → Option β)  (v0 : Int) (v1 : Int) (v2 : Int) (v3 : Int) (v4 : Int) (v5 : Mp) (v6 : Mp) (v7 : Int) (v8 : Int) (rec_ : Int → Int → Int → Int → Int → Mp → Mp → Int → Int → Option β) (k0 : Int → Int → Int → Mp → Mp → Int → Int → Option β) : zj119 N self v0 v1 v2 v3 v4 v5 v6 v7 v8 rec_ k0 = zb119 N (zj118 N) self v0 v1 v2 v3 v4 v5 v6 v7 v8 rec_ k0 := by
  unfold zj119 zb119
  rfl
theorem vst175_0_0 {β : Type} (N : Nat) (zq109 : (a0 : Int) → (a1 : Int) → (a2 : Int) → (a3 : Int) → (k : Int → Option β) → Option β) (zq118 : (a0 : Int) → (a1 : Int) → (a2 : Int) → (a3 : Int) → (k : Int → Int → Option β) → Option β) (zq120 : (self : Int → Int → Int → Int → Mp → Mp → (Int → Int → Int → Mp → Mp → Option β) → Option β) → Nat → Int → Int → Int → Int → Int → Mp → Mp → Int → Int → (Int → Int → Int → Mp → Mp → Int → Int → Option β) → Option β) (zq122 : Nat → Int → Int → Int → Int → Mp → Mp → (Int → Int → Int → Mp → Mp → Option β) → Option β) (G : Nat)  (v0 : Int) (v1 : Int) (v2 : Int) (v3 : Int) (v4 : Int) (v5 : Mp) (v6 : Mp) (v7 : Int) (v8 : Int) (rec_ : St → Option β) (K : Exit → St → Option β) :
    ev lay (VE175 N zq109 zq118 zq120 zq122 G) (retMask Try.f175) (lp Try.f175 0).body (lp Try.f175 0).ex ((lp Try.f175 0).lv (retMask Try.f175)) (h175_0_0  v0 v1 v2 v3 v4 v5 v6 v7 v8) (nextR (fun s' => rec_ (s'.tidy ((lp Try.f175 0).lv (retMask Try.f175)))) K) = zb119 N zq118 (zq122 G)  v0 v1 v2 v3 v4 v5 v6 v7 v8 (fun v0 v1 v2 v3 v4 v5 v6 v7 v8 => rec_ (h175_0_0  v0 v1 v2 v3 v4 v5 v6 v7 v8)) (fun y0 y1 y2 y3 y4 y5 y6 => K (.exit 0) (x175_0_0_k0  y0 y1 y2 y3 y4 y5 y6)) := by kernel_rfl
theorem st175_0_0 {β : Type} (N : Nat) (G : Nat)  (v0 : Int) (v1 : Int) (v2 : Int) (v3 : Int) (v4 : Int) (v5 : Mp) (v6 : Mp) (v7 : Int) (v8 : Int) (rec_ : St → Option β) (K : Exit → St → Option β) :
    ev lay (E175 N G) (retMask Try.f175) (lp Try.f175 0).body (lp Try.f175 0).ex ((lp Try.f175 0).lv (retMask Try.f175)) (h175_0_0  v0 v1 v2 v3 v4 v5 v6 v7 v8) (nextR (fun s' => rec_ (s'.tidy ((lp Try.f175 0).lv (retMask Try.f175)))) K) = zj119 N (zj122 N G)  v0 v1 v2 v3 v4 v5 v6 v7 v8 (fun v0 v1 v2 v3 v4 v5 v6 v7 v8 => rec_ (h175_0_0  v0 v1 v2 v3 v4 v5 v6 v7 v8)) (fun y0 y1 y2 y3 y4 y5 y6 => K (.exit 0) (x175_0_0_k0  y0 y1 y2 y3 y4 y5 y6)) := (vst175_0_0 N (zj109 N) (zj118 N) (zj120 N) (zj122 N) G v0 v1 v2 v3 v4 v5 v6 v7 v8 rec_ K).trans (zt119 N (zj122 N G)  v0 v1 v2 v3 v4 v5 v6 v7 v8 (fun v0 v1 v2 v3 v4 v5 v6 v7 v8 => rec_ (h175_0_0  v0 v1 v2 v3 v4 v5 v6 v7 v8)) (fun y0 y1 y2 y3 y4 y5 y6 => K (.exit 0) (x175_0_0_k0  y0 y1 y2 y3 y4 y5 y6))).symm
theorem ro175_0_0 {β : Type} (N : Nat) (G : Nat)  (K : Exit → St → Option β) : ∀ (F : Nat) (v0 : Int) (v1 : Int) (v2 : Int) (v3 : Int) (v4 : Int) (v5 : Mp) (v6 : Mp) (v7 : Int) (v8 : Int), (lp Try.f175 0).rounds lay (E175 N G) (retMask Try.f175) F (h175_0_0  v0 v1 v2 v3 v4 v5 v6 v7 v8) K = zj120 N (zj122 N G)  F v0 v1 v2 v3 v4 v5 v6 v7 v8 (fun y0 y1 y2 y3 y4 y5 y6 => K (.exit 0) (x175_0_0_k0  y0 y1 y2 y3 y4 y5 y6)) := by
  intro F
  induction F with
  | zero => intros; rfl
  | succ F ih =>
    intros
    rw [rounds_next]
    refine (st175_0_0 N G  _ _ _ _ _ _ _ _ _ (fun s => (lp Try.f175 0).rounds lay (E175 N G) (retMask Try.f175) F s K) K).trans ?_
    simp only [ih]
    rfl
theorem lk175_0 {β : Type} (N : Nat) (G : Nat) : lookL (E175 (β := β) N G).loops (lp Try.f175 0).id = LS175_0 N G := by kernel_rfl
theorem rk175_0 {β : Type} (N : Nat) (G : Nat) : RoundsOK lay (E175 (β := β) N G) (retMask Try.f175) (lp Try.f175 0) := by
  intro s K r h
  rw [lk175_0] at h
  unfold LS175_0 VLS175_0 at h
  cases hb : shpSt (h175_0_0 0 0 0 0 0 [] [] 0 0) s with
  | true =>
    rw [hb, cond_true] at h
    exact ⟨N, by rw [← shpSt_ref hb, fl175_0_0 s]; exact (ro175_0_0 N G  K N (intS (oneA (vT (nx tund s.tmps 7)))) (intS (oneA (vT (nx tund s.tmps 39)))) (intS (oneA (vT (nx tund s.tmps 40)))) (intS (nx .und (cellsB (nx .dead s.blks 0)) 0)) (intS (nx .und (cellsB (nx .dead s.blks 0)) 1)) (mpB (nx .dead s.blks 1)) (mpB (nx .dead s.blks 2)) (intS (nx .und (cellsB (nx .dead s.blks 3)) 0)) (intS (nx .und (cellsB (nx .dead s.blks 3)) 1))).trans h⟩
  | false =>
  rw [hb, cond_false] at h
  clear hb
  cases h
def zb121 {β : Type} (N : Nat) (zq109 : (a0 : Int) → (a1 : Int) → (a2 : Int) → (a3 : Int) → (k : Int → Option β) → Option β) (zq120 : (self : Int → Int → Int → Int → Mp → Mp → (Int → Int → Int → Mp → Mp → Option β) → Option β) → Nat → Int → Int → Int → Int → Int → Mp → Mp → Int → Int → (Int → Int → Int → Mp → Mp → Int → Int → Option β) → Option β) (self : Int → Int → Int → Int → Mp → Mp → (Int → Int → Int → Mp → Mp → Option β) → Option β) (a0 : Int) (a1 : Int) (a2 : Int) (a3 : Int) (a4 : Mp) (a5 : Mp) (k0 : Int → Int → Int → Mp → Mp → Option β) : Option β :=
(cond ((hasM ⟨true, false⟩ a4 a0 a1))
(k0 ((getM ⟨true, false⟩ a4 a0 a1)) a2 a3 a4 a5)
(zq109 a2 a3 a0 a1 fun r5 =>
(cond ((r5 == 2))
(zq120 self  N a2 a2 0 a2 a3 a4 a5 a0 a1 (fun e12_0 e12_1 e12_2 e12_3 e12_4 e12_5 e12_6 =>
k0 e12_0 e12_1 e12_2 ((putM ⟨true, false⟩ e12_3 e12_5 e12_6 e12_0)) e12_4))
(k0 0 a2 a3 ((putM ⟨true, false⟩ a4 a0 a1 0)) a5))))
theorem zt121 {β : Type} (N : Nat) (self : Int → Int → Int → Int → Mp → Mp → (Int → Int → Int → Mp → Mp → Option β) → Option β) (a0 : Int) (a1 : Int) (a2 : Int) (a3 : Int) (a4 : Mp) (a5 : Mp) (k0 : Int → Int → Int → Mp → Mp → Option β) : zj121 N self a0 a1 a2 a3 a4 a5 k0 = zb121 N (zj109 N) (zj120 N) self a0 a1 a2 a3 a4 a5 k0 := by
  unfold zj121 zb121
  rfl
theorem ve175_0 {β : Type} (N : Nat) (zq109 : (a0 : Int) → (a1 : Int) → (a2 : Int) → (a3 : Int) → (k : Int → Option β) → Option β) (zq118 : (a0 : Int) → (a1 : Int) → (a2 : Int) → (a3 : Int) → (k : Int → Int → Option β) → Option β) (zq120 : (self : Int → Int → Int → Int → Mp → Mp → (Int → Int → Int → Mp → Mp → Option β) → Option β) → Nat → Int → Int → Int → Int → Int → Mp → Mp → Int → Int → (Int → Int → Int → Mp → Mp → Int → Int → Option β) → Option β) (zq122 : Nat → Int → Int → Int → Int → Mp → Mp → (Int → Int → Int → Mp → Mp → Option β) → Option β) (G : Nat) (a0 : Int) (a1 : Int) (a2 : Int) (a3 : Int) (a4 : Mp) (a5 : Mp) (K : TV → List Blk → Option β) : evFnG lay (VE175 N zq109 zq118 zq120 zq122 G) Try.f175 [.v (.one (.ptr 0 0)), .v (.agg [.int .i64 a0, .int .i64 a1])] [.pcells 0 168 [.int .i64 a2, .int .i64 a3, .mp 1, .mp 2], .pmp 1 ⟨true, false⟩ a4, .pmp 2 ⟨true, false⟩ a5] K = zb121 N zq109 zq120 (zq122 G) a0 a1 a2 a3 a4 a5 (fun y0 y1 y2 y3 y4 => K (.v (.one (.int .i64 y0))) [.pcells 0 168 [.int .i64 y1, .int .i64 y2, .mp 1, .mp 2], .pmp 1 ⟨true, false⟩ y3, .pmp 2 ⟨true, false⟩ y4]) := by kernel_rfl
theorem e175_0 {β : Type} (N : Nat) (G : Nat) (a0 : Int) (a1 : Int) (a2 : Int) (a3 : Int) (a4 : Mp) (a5 : Mp) (K : TV → List Blk → Option β) : evFnG lay (E175 N G) Try.f175 [.v (.one (.ptr 0 0)), .v (.agg [.int .i64 a0, .int .i64 a1])] [.pcells 0 168 [.int .i64 a2, .int .i64 a3, .mp 1, .mp 2], .pmp 1 ⟨true, false⟩ a4, .pmp 2 ⟨true, false⟩ a5] K = zj122 N (G + 1) a0 a1 a2 a3 a4 a5 (fun y0 y1 y2 y3 y4 => K (.v (.one (.int .i64 y0))) [.pcells 0 168 [.int .i64 y1, .int .i64 y2, .mp 1, .mp 2], .pmp 1 ⟨true, false⟩ y3, .pmp 2 ⟨true, false⟩ y4]) := (ve175_0 N (zj109 N) (zj118 N) (zj120 N) (zj122 N) G a0 a1 a2 a3 a4 a5 K).trans (zt121 N (zj122 N G) a0 a1 a2 a3 a4 a5 (fun y0 y1 y2 y3 y4 => K (.v (.one (.int .i64 y0))) [.pcells 0 168 [.int .i64 y1, .int .i64 y2, .mp 1, .mp 2], .pmp 1 ⟨true, false⟩ y3, .pmp 2 ⟨true, false⟩ y4])).symm
theorem z175 {β : Type} (N : Nat) : ∀ args bl K r, SF175 (β := β) N 0 args bl K = some r → (none : Option β) = some r := by
  intro args bl K r h
  unfold SF175 VSF175 at h
  split at h <;> exact h
theorem of175 {β : Type} (N : Nat) : ∀ G, GOK (β := β) inv Try.prog 175 (SF175 N G) := by
  intro G
  induction G with
  | zero => exact g_zero Try.func175 (by kernel_rfl) (z175 N)
  | succ G ih =>
    refine g_of lay_ok mixed (E := E175 N G) (specs_loops (specs_cons (o203 N) (specs_cons (o204 N) specs_nil))) muts_nil (gs_cons ih gs_nil) Try.func175 (by kernel_rfl) 1 (by kernel_rfl) ⟨trivial, rk175_0 N G⟩ fun args bl K r h => ?_
    unfold SF175 VSF175 at h
    split at h
    · exact (e175_0 N G _ _ _ _ _ _ _).trans h
    · cases h
theorem o175 {β : Type} (N : Nat) : GOK (β := β) inv Try.prog 175 (S175 N) := of175 N N
def VS138 {β : Type} (N : Nat) (zq124 : (a0 : Int) → (a1 : Int) → (k : Int → Option β) → Option β) : Rv.Spec β := fun args K => match args with
  | [.v (.agg [.int .i64 a0, .int .i64 a1])] => zq124 a0 a1 (fun z2 => K (.v (.one (.int .i64 z2))))
  | _ => none
def S138 {β : Type} (N : Nat) : Rv.Spec β := VS138 N (zj124 N)
def VE138 {β : Type} (N : Nat) (zq81 : (a0 : Int) → (a1 : Int) → (a2 : Int) → (k : Bool → Option β) → Option β) (zq117 : (a0 : Int) → (a1 : Int) → (k0 : Int → Int → Mp → Mp → Option β) → Option β) (zq122 : Nat → Int → Int → Int → Int → Mp → Mp → (Int → Int → Int → Mp → Mp → Option β) → Option β) : Env β := ⟨[(51, VS51 N zq81)], [], [], [(174, VS174 N zq117), (175, VS175 N zq122)], ⟨[], [], [], [61]⟩⟩
def E138 {β : Type} (N : Nat) : Env β := VE138 N (zj81 N) (zj117 N) (zj122 N)
def zb124 {β : Type} (N : Nat) (zq81 : (a0 : Int) → (a1 : Int) → (a2 : Int) → (k : Bool → Option β) → Option β) (zq117 : (a0 : Int) → (a1 : Int) → (k0 : Int → Int → Mp → Mp → Option β) → Option β) (zq122 : Nat → Int → Int → Int → Int → Mp → Mp → (Int → Int → Int → Mp → Mp → Option β) → Option β) (a0 : Int) (a1 : Int) (k : Int → Option β) : Option β :=
zq81 a0 a1 4 fun r3 =>
(cond (!r3)
(k (-1))
(zq117 a0 a1 (fun r4_0 r4_1 r4_2 r4_3 =>
zq122 N 0 0 r4_0 r4_1 r4_2 r4_3 (fun r5_0 r5_1 r5_2 r5_3 r5_4 =>
k r5_0))))
theorem zt124 {β : Type} (N : Nat) (a0 : Int) (a1 : Int) (k : Int → Option β) : zj124 N a0 a1 k = zb124 N (zj81 N) (zj117 N) (zj122 N) a0 a1 k := by
  unfold zj124 zb124
  rfl
theorem ve138_0 {β : Type} (N : Nat) (zq81 : (a0 : Int) → (a1 : Int) → (a2 : Int) → (k : Bool → Option β) → Option β) (zq117 : (a0 : Int) → (a1 : Int) → (k0 : Int → Int → Mp → Mp → Option β) → Option β) (zq122 : Nat → Int → Int → Int → Int → Mp → Mp → (Int → Int → Int → Mp → Mp → Option β) → Option β)  (a0 : Int) (a1 : Int) (K : TV → Option β) : evFn lay (VE138 N zq81 zq117 zq122) Try.f138 [.v (.agg [.int .i64 a0, .int .i64 a1])] K = zb124 N zq81 zq117 zq122 a0 a1 (fun z2 => K (.v (.one (.int .i64 z2)))) := by kernel_rfl
theorem e138_0 {β : Type} (N : Nat)  (a0 : Int) (a1 : Int) (K : TV → Option β) : evFn lay (E138 N) Try.f138 [.v (.agg [.int .i64 a0, .int .i64 a1])] K = zj124 N a0 a1 (fun z2 => K (.v (.one (.int .i64 z2)))) := (ve138_0 N (zj81 N) (zj117 N) (zj122 N) a0 a1 K).trans (zt124 N a0 a1 (fun z2 => K (.v (.one (.int .i64 z2))))).symm
theorem o138 {β : Type} (N : Nat) : SpecOK (β := β) inv Try.prog 138 (S138 N) := by
  refine spec_of lay_ok mixed (E := E138 N) (specs_loops (specs_cons (o51 N) specs_nil)) muts_nil (gs_cons (o174 N) (gs_cons (o175 N) gs_nil)) Try.func138 (by kernel_rfl) 0 (by kernel_rfl) trivial fun args K r h => ?_
  unfold S138 VS138 at h
  split at h
  · exact (e138_0 N _ _ _).trans h
  · cases h
def VS176 {β : Type} (N : Nat) (zq129 : (a0 : Int) → (a1 : Int) → (k : List Int → Option β) → Option β) : Rv.Spec β := fun args K => match args with
  | [.v (.agg [.int .i64 a0, .int .i64 a1])] => zq129 a0 a1 (fun z2 => K (.v (.one (.sl 3 (.ints .i64 z2)))))
  | _ => none
def S176 {β : Type} (N : Nat) : Rv.Spec β := VS176 N (zj129 N)
def h176_0_0  (v0 : Int) (v1 : Int) (v2 : Int) (v3 : Int) (v4 : List Int) : St := ⟨tund :: .v (.one (.ptr 0 0)) :: tund :: .v (.one (.row 1)) :: tund :: tund :: tund :: tund :: tund :: tund :: .v (.one (.int .i64 v0)) :: .v (.one (.int .i64 v1)) :: tund :: tund :: tund :: tund :: tund :: tund :: tund :: tund :: tund :: tund :: tund :: tund :: tund :: tund :: tund :: tund :: tund :: tund :: tund :: tund :: tund :: tund :: tund :: tund :: tund :: tund :: tund :: tund :: tund :: tund :: tund :: tund :: tund :: tund :: tund :: tund :: tund :: tund :: tund :: tund :: [], [.cells 27 [.int .i64 v2, .int .i64 v3], .row 3 (.ints .i64 v4)]⟩
def x176_0_0_k0  (y0 : List Int) : St := ⟨tund :: tund :: tund :: .v (.one (.row 0)) :: tund :: tund :: tund :: tund :: tund :: tund :: tund :: tund :: tund :: tund :: tund :: tund :: tund :: tund :: tund :: tund :: tund :: tund :: tund :: tund :: tund :: tund :: tund :: tund :: tund :: tund :: tund :: tund :: tund :: tund :: tund :: tund :: tund :: tund :: tund :: tund :: tund :: tund :: tund :: tund :: tund :: tund :: tund :: tund :: tund :: tund :: tund :: tund :: [], [.row 3 (.ints .i64 y0)]⟩
def h176_1_0  (v0 : Int) (v1 : Int) (v2 : Int) (v3 : Int) (v4 : Int) (v5 : Int) (v6 : Int) (v7 : List Int) : St := ⟨tund :: .v (.one (.ptr 0 0)) :: tund :: .v (.one (.row 1)) :: .v (.one (.int .i64 v0)) :: tund :: tund :: tund :: tund :: tund :: .v (.one (.int .i64 v1)) :: .v (.one (.int .i64 v2)) :: tund :: tund :: tund :: .v (.one (.int .i64 v3)) :: .v (.one (.int .i64 v4)) :: tund :: tund :: tund :: tund :: tund :: tund :: tund :: tund :: tund :: tund :: tund :: tund :: tund :: tund :: tund :: tund :: tund :: tund :: tund :: tund :: tund :: tund :: tund :: tund :: tund :: tund :: tund :: tund :: tund :: tund :: tund :: tund :: tund :: tund :: tund :: [], [.cells 27 [.int .i64 v5, .int .i64 v6], .row 3 (.ints .i64 v7)]⟩
def x176_1_0_k0  (y0 : Int) (y1 : Int) (y2 : Int) (y3 : Int) (y4 : List Int) : St := ⟨tund :: .v (.one (.ptr 0 0)) :: tund :: .v (.one (.row 1)) :: tund :: tund :: tund :: tund :: tund :: tund :: .v (.one (.int .i64 y0)) :: .v (.one (.int .i64 y1)) :: tund :: tund :: tund :: tund :: tund :: tund :: tund :: tund :: tund :: tund :: tund :: tund :: tund :: tund :: tund :: tund :: tund :: tund :: tund :: tund :: tund :: tund :: tund :: tund :: tund :: tund :: tund :: tund :: tund :: tund :: tund :: tund :: tund :: tund :: tund :: tund :: tund :: tund :: tund :: tund :: [], [.cells 27 [.int .i64 y2, .int .i64 y3], .row 3 (.ints .i64 y4)]⟩
theorem fl176_0_0 (s : St) : refSt (h176_0_0 0 0 0 0 []) s = h176_0_0 (intS (oneA (vT (nx tund s.tmps 10)))) (intS (oneA (vT (nx tund s.tmps 11)))) (intS (nx .und (cellsB (nx .dead s.blks 0)) 0)) (intS (nx .und (cellsB (nx .dead s.blks 0)) 1)) (rInts (rowB_ (nx .dead s.blks 1))) := by kernel_rfl
def VLS176_0 {β : Type} (N : Nat) (zq128 : Nat → Int → Int → Int → Int → List Int → (List Int → Option β) → Option β) : LSpec β := fun s K => cond (shpSt (h176_0_0 0 0 0 0 []) s) ((fun (v0 : Int) (v1 : Int) (v2 : Int) (v3 : Int) (v4 : List Int) => zq128  N v0 v1 v2 v3 v4 (fun y0 => K (.exit 0) (x176_0_0_k0  y0))) (intS (oneA (vT (nx tund s.tmps 10)))) (intS (oneA (vT (nx tund s.tmps 11)))) (intS (nx .und (cellsB (nx .dead s.blks 0)) 0)) (intS (nx .und (cellsB (nx .dead s.blks 0)) 1)) (rInts (rowB_ (nx .dead s.blks 1)))) (none)
def LS176_0 {β : Type} (N : Nat) : LSpec β := VLS176_0 N (zj128 N)
theorem fl176_1_0 (s : St) : refSt (h176_1_0 0 0 0 0 0 0 0 []) s = h176_1_0 (intS (oneA (vT (nx tund s.tmps 4)))) (intS (oneA (vT (nx tund s.tmps 10)))) (intS (oneA (vT (nx tund s.tmps 11)))) (intS (oneA (vT (nx tund s.tmps 15)))) (intS (oneA (vT (nx tund s.tmps 16)))) (intS (nx .und (cellsB (nx .dead s.blks 0)) 0)) (intS (nx .und (cellsB (nx .dead s.blks 0)) 1)) (rInts (rowB_ (nx .dead s.blks 1))) := by kernel_rfl
def VLS176_2 {β : Type} (N : Nat) (zq126 : Nat → Int → Int → Int → Int → Int → Int → Int → List Int → (Int → Int → Int → Int → List Int → Option β) → Option β) : LSpec β := fun s K => cond (shpSt (h176_1_0 0 0 0 0 0 0 0 []) s) ((fun (v0 : Int) (v1 : Int) (v2 : Int) (v3 : Int) (v4 : Int) (v5 : Int) (v6 : Int) (v7 : List Int) => zq126  N v0 v1 v2 v3 v4 v5 v6 v7 (fun y0 y1 y2 y3 y4 => K (.exit 2) (x176_1_0_k0  y0 y1 y2 y3 y4))) (intS (oneA (vT (nx tund s.tmps 4)))) (intS (oneA (vT (nx tund s.tmps 10)))) (intS (oneA (vT (nx tund s.tmps 11)))) (intS (oneA (vT (nx tund s.tmps 15)))) (intS (oneA (vT (nx tund s.tmps 16)))) (intS (nx .und (cellsB (nx .dead s.blks 0)) 0)) (intS (nx .und (cellsB (nx .dead s.blks 0)) 1)) (rInts (rowB_ (nx .dead s.blks 1)))) (none)
def LS176_2 {β : Type} (N : Nat) : LSpec β := VLS176_2 N (zj126 N)
def VE176 {β : Type} (N : Nat) (zq79 : (a0 : Int) → (a1 : Int) → (k : Int → Option β) → Option β) (zq106 : (a0 : Int) → (k : Int → Option β) → Option β) (zq83 : (a0 : Int) → (a1 : Int) → (a2 : Int) → (k : Int → Option β) → Option β) (zq128 : Nat → Int → Int → Int → Int → List Int → (List Int → Option β) → Option β) (zq126 : Nat → Int → Int → Int → Int → Int → Int → Int → List Int → (Int → Int → Int → Int → List Int → Option β) → Option β) : Env β := ⟨[(96, VS96 N zq79), (144, VS144 N zq106), (97, VS97 N zq83)], [], [(0, VLS176_0 N zq128), (2, VLS176_2 N zq126)], [], ⟨[], [], [], [61]⟩⟩
def E176 {β : Type} (N : Nat) : Env β := VE176 N (zj79 N) (zj106 N) (zj83 N) (zj128 N) (zj126 N)
def zb127 {β : Type} (N : Nat) (zq79 : (a0 : Int) → (a1 : Int) → (k : Int → Option β) → Option β) (zq126 : Nat → Int → Int → Int → Int → Int → Int → Int → List Int → (Int → Int → Int → Int → List Int → Option β) → Option β)  (v0 : Int) (v1 : Int) (v2 : Int) (v3 : Int) (v4 : List Int) (rec_ : Int → Int → Int → Int → List Int → Option β) (k0 : List Int → Option β) : Option β :=
(cond ((decide (v1 < v0)))
(zq79 v2 v3 fun r4 =>
zq126  N v1 v0 v1 r4 0 v2 v3 v4 (fun e8_0 e8_1 e8_2 e8_3 e8_4 =>
rec_ e8_0 ((w64 (e8_1 + 1))) e8_2 e8_3 e8_4))
(k0 v4))
theorem zt127 {β : Type} (N : Nat)  (v0 : Int) (v1 : Int) (v2 : Int) (v3 : Int) (v4 : List Int) (rec_ : Int → Int → Int → Int → List Int → Option β) (k0 : List Int → Option β) : zj127 N v0 v1 v2 v3 v4 rec_ k0 = zb127 N (zj79 N) (zj126 N) v0 v1 v2 v3 v4 rec_ k0 := by
  unfold zj127 zb127
  rfl
theorem vst176_0_0 {β : Type} (N : Nat) (zq79 : (a0 : Int) → (a1 : Int) → (k : Int → Option β) → Option β) (zq106 : (a0 : Int) → (k : Int → Option β) → Option β) (zq83 : (a0 : Int) → (a1 : Int) → (a2 : Int) → (k : Int → Option β) → Option β) (zq128 : Nat → Int → Int → Int → Int → List Int → (List Int → Option β) → Option β) (zq126 : Nat → Int → Int → Int → Int → Int → Int → Int → List Int → (Int → Int → Int → Int → List Int → Option β) → Option β)  (v0 : Int) (v1 : Int) (v2 : Int) (v3 : Int) (v4 : List Int) (rec_ : St → Option β) (K : Exit → St → Option β) :
    ev lay (VE176 N zq79 zq106 zq83 zq128 zq126) (retMask Try.f176) (lp Try.f176 0).body (lp Try.f176 0).ex ((lp Try.f176 0).lv (retMask Try.f176)) (h176_0_0  v0 v1 v2 v3 v4) (nextR (fun s' => rec_ (s'.tidy ((lp Try.f176 0).lv (retMask Try.f176)))) K) = zb127 N zq79 zq126  v0 v1 v2 v3 v4 (fun v0 v1 v2 v3 v4 => rec_ (h176_0_0  v0 v1 v2 v3 v4)) (fun y0 => K (.exit 0) (x176_0_0_k0  y0)) := by kernel_rfl
theorem st176_0_0 {β : Type} (N : Nat)  (v0 : Int) (v1 : Int) (v2 : Int) (v3 : Int) (v4 : List Int) (rec_ : St → Option β) (K : Exit → St → Option β) :
    ev lay (E176 N) (retMask Try.f176) (lp Try.f176 0).body (lp Try.f176 0).ex ((lp Try.f176 0).lv (retMask Try.f176)) (h176_0_0  v0 v1 v2 v3 v4) (nextR (fun s' => rec_ (s'.tidy ((lp Try.f176 0).lv (retMask Try.f176)))) K) = zj127 N  v0 v1 v2 v3 v4 (fun v0 v1 v2 v3 v4 => rec_ (h176_0_0  v0 v1 v2 v3 v4)) (fun y0 => K (.exit 0) (x176_0_0_k0  y0)) := (vst176_0_0 N (zj79 N) (zj106 N) (zj83 N) (zj128 N) (zj126 N) v0 v1 v2 v3 v4 rec_ K).trans (zt127 N  v0 v1 v2 v3 v4 (fun v0 v1 v2 v3 v4 => rec_ (h176_0_0  v0 v1 v2 v3 v4)) (fun y0 => K (.exit 0) (x176_0_0_k0  y0))).symm
theorem ro176_0_0 {β : Type} (N : Nat)  (K : Exit → St → Option β) : ∀ (F : Nat) (v0 : Int) (v1 : Int) (v2 : Int) (v3 : Int) (v4 : List Int), (lp Try.f176 0).rounds lay (E176 N) (retMask Try.f176) F (h176_0_0  v0 v1 v2 v3 v4) K = zj128 N  F v0 v1 v2 v3 v4 (fun y0 => K (.exit 0) (x176_0_0_k0  y0)) := by
  intro F
  induction F with
  | zero => intros; rfl
  | succ F ih =>
    intros
    rw [rounds_next]
    refine (st176_0_0 N  _ _ _ _ _ (fun s => (lp Try.f176 0).rounds lay (E176 N) (retMask Try.f176) F s K) K).trans ?_
    simp only [ih]
    rfl
theorem lk176_0 {β : Type} (N : Nat) : lookL (E176 (β := β) N).loops (lp Try.f176 0).id = LS176_0 N := by kernel_rfl
theorem rk176_0 {β : Type} (N : Nat) : RoundsOK lay (E176 (β := β) N) (retMask Try.f176) (lp Try.f176 0) := by
  intro s K r h
  rw [lk176_0] at h
  unfold LS176_0 VLS176_0 at h
  cases hb : shpSt (h176_0_0 0 0 0 0 []) s with
  | true =>
    rw [hb, cond_true] at h
    exact ⟨N, by rw [← shpSt_ref hb, fl176_0_0 s]; exact (ro176_0_0 N  K N (intS (oneA (vT (nx tund s.tmps 10)))) (intS (oneA (vT (nx tund s.tmps 11)))) (intS (nx .und (cellsB (nx .dead s.blks 0)) 0)) (intS (nx .und (cellsB (nx .dead s.blks 0)) 1)) (rInts (rowB_ (nx .dead s.blks 1)))).trans h⟩
  | false =>
  rw [hb, cond_false] at h
  clear hb
  cases h
def zb125 {β : Type} (N : Nat) (zq106 : (a0 : Int) → (k : Int → Option β) → Option β) (zq83 : (a0 : Int) → (a1 : Int) → (a2 : Int) → (k : Int → Option β) → Option β)  (v0 : Int) (v1 : Int) (v2 : Int) (v3 : Int) (v4 : Int) (v5 : Int) (v6 : Int) (v7 : List Int) (rec_ : Int → Int → Int → Int → Int → Int → Int → List Int → Option β) (k0 : Int → Int → Int → Int → List Int → Option β) : Option β :=
(cond ((decide (v4 < v3)))
((cond (((bits .andNot .i64 v4 v0) != 0))
(rec_ v0 v1 v2 v3 ((w64 (v4 + 1))) v5 v6 v7)
(zq106 ((bits .xor .i64 v0 v4)) fun r5 =>
(cond (((remI r5 2) == 0))
((gd ((decide (0 ≤ v0)))
((gd ((decide (v0 < (v7.length : Int))))
(zq83 v5 v6 v4 fun r6 =>
(gd ((decide (0 ≤ v0)))
((gd ((decide (v0 < (v7.length : Int))))
(rec_ v0 v1 v2 v3 ((w64 (v4 + 1))) v5 v6 ((wr v7 v0 (w64 ((rd 0 v7 v0) + r6)))))))))))))
((gd ((decide (0 ≤ v0)))
((gd ((decide (v0 < (v7.length : Int))))
(zq83 v5 v6 v4 fun r7 =>
(gd ((decide (0 ≤ v0)))
((gd ((decide (v0 < (v7.length : Int))))
(rec_ v0 v1 v2 v3 ((w64 (v4 + 1))) v5 v6 ((wr v7 v0 (w64 ((rd 0 v7 v0) - r7)))))))))))))))))
(k0 v1 v2 v5 v6 v7))
theorem zt125 {β : Type} (N : Nat)  (v0 : Int) (v1 : Int) (v2 : Int) (v3 : Int) (v4 : Int) (v5 : Int) (v6 : Int) (v7 : List Int) (rec_ : Int → Int → Int → Int → Int → Int → Int → List Int → Option β) (k0 : Int → Int → Int → Int → List Int → Option β) : zj125 N v0 v1 v2 v3 v4 v5 v6 v7 rec_ k0 = zb125 N (zj106 N) (zj83 N) v0 v1 v2 v3 v4 v5 v6 v7 rec_ k0 := by
  unfold zj125 zb125
  rfl
theorem vst176_1_0 {β : Type} (N : Nat) (zq79 : (a0 : Int) → (a1 : Int) → (k : Int → Option β) → Option β) (zq106 : (a0 : Int) → (k : Int → Option β) → Option β) (zq83 : (a0 : Int) → (a1 : Int) → (a2 : Int) → (k : Int → Option β) → Option β) (zq128 : Nat → Int → Int → Int → Int → List Int → (List Int → Option β) → Option β) (zq126 : Nat → Int → Int → Int → Int → Int → Int → Int → List Int → (Int → Int → Int → Int → List Int → Option β) → Option β)  (v0 : Int) (v1 : Int) (v2 : Int) (v3 : Int) (v4 : Int) (v5 : Int) (v6 : Int) (v7 : List Int) (rec_ : St → Option β) (K : Exit → St → Option β) :
    ev lay (VE176 N zq79 zq106 zq83 zq128 zq126) (retMask Try.f176) (lp Try.f176 1).body (lp Try.f176 1).ex ((lp Try.f176 1).lv (retMask Try.f176)) (h176_1_0  v0 v1 v2 v3 v4 v5 v6 v7) (nextR (fun s' => rec_ (s'.tidy ((lp Try.f176 1).lv (retMask Try.f176)))) K) = zb125 N zq106 zq83  v0 v1 v2 v3 v4 v5 v6 v7 (fun v0 v1 v2 v3 v4 v5 v6 v7 => rec_ (h176_1_0  v0 v1 v2 v3 v4 v5 v6 v7)) (fun y0 y1 y2 y3 y4 => K (.exit 2) (x176_1_0_k0  y0 y1 y2 y3 y4)) := by kernel_rfl
theorem st176_1_0 {β : Type} (N : Nat)  (v0 : Int) (v1 : Int) (v2 : Int) (v3 : Int) (v4 : Int) (v5 : Int) (v6 : Int) (v7 : List Int) (rec_ : St → Option β) (K : Exit → St → Option β) :
    ev lay (E176 N) (retMask Try.f176) (lp Try.f176 1).body (lp Try.f176 1).ex ((lp Try.f176 1).lv (retMask Try.f176)) (h176_1_0  v0 v1 v2 v3 v4 v5 v6 v7) (nextR (fun s' => rec_ (s'.tidy ((lp Try.f176 1).lv (retMask Try.f176)))) K) = zj125 N  v0 v1 v2 v3 v4 v5 v6 v7 (fun v0 v1 v2 v3 v4 v5 v6 v7 => rec_ (h176_1_0  v0 v1 v2 v3 v4 v5 v6 v7)) (fun y0 y1 y2 y3 y4 => K (.exit 2) (x176_1_0_k0  y0 y1 y2 y3 y4)) := (vst176_1_0 N (zj79 N) (zj106 N) (zj83 N) (zj128 N) (zj126 N) v0 v1 v2 v3 v4 v5 v6 v7 rec_ K).trans (zt125 N  v0 v1 v2 v3 v4 v5 v6 v7 (fun v0 v1 v2 v3 v4 v5 v6 v7 => rec_ (h176_1_0  v0 v1 v2 v3 v4 v5 v6 v7)) (fun y0 y1 y2 y3 y4 => K (.exit 2) (x176_1_0_k0  y0 y1 y2 y3 y4))).symm
theorem ro176_1_0 {β : Type} (N : Nat)  (K : Exit → St → Option β) : ∀ (F : Nat) (v0 : Int) (v1 : Int) (v2 : Int) (v3 : Int) (v4 : Int) (v5 : Int) (v6 : Int) (v7 : List Int), (lp Try.f176 1).rounds lay (E176 N) (retMask Try.f176) F (h176_1_0  v0 v1 v2 v3 v4 v5 v6 v7) K = zj126 N  F v0 v1 v2 v3 v4 v5 v6 v7 (fun y0 y1 y2 y3 y4 => K (.exit 2) (x176_1_0_k0  y0 y1 y2 y3 y4)) := by
  intro F
  induction F with
  | zero => intros; rfl
  | succ F ih =>
    intros
    rw [rounds_next]
    refine (st176_1_0 N  _ _ _ _ _ _ _ _ (fun s => (lp Try.f176 1).rounds lay (E176 N) (retMask Try.f176) F s K) K).trans ?_
    simp only [ih]
    rfl
theorem lk176_2 {β : Type} (N : Nat) : lookL (E176 (β := β) N).loops (lp Try.f176 1).id = LS176_2 N := by kernel_rfl
theorem rk176_2 {β : Type} (N : Nat) : RoundsOK lay (E176 (β := β) N) (retMask Try.f176) (lp Try.f176 1) := by
  intro s K r h
  rw [lk176_2] at h
  unfold LS176_2 VLS176_2 at h
  cases hb : shpSt (h176_1_0 0 0 0 0 0 0 0 []) s with
  | true =>
    rw [hb, cond_true] at h
    exact ⟨N, by rw [← shpSt_ref hb, fl176_1_0 s]; exact (ro176_1_0 N  K N (intS (oneA (vT (nx tund s.tmps 4)))) (intS (oneA (vT (nx tund s.tmps 10)))) (intS (oneA (vT (nx tund s.tmps 11)))) (intS (oneA (vT (nx tund s.tmps 15)))) (intS (oneA (vT (nx tund s.tmps 16)))) (intS (nx .und (cellsB (nx .dead s.blks 0)) 0)) (intS (nx .und (cellsB (nx .dead s.blks 0)) 1)) (rInts (rowB_ (nx .dead s.blks 1)))).trans h⟩
  | false =>
  rw [hb, cond_false] at h
  clear hb
  cases h
def zb129 {β : Type} (N : Nat) (zq79 : (a0 : Int) → (a1 : Int) → (k : Int → Option β) → Option β) (zq128 : Nat → Int → Int → Int → Int → List Int → (List Int → Option β) → Option β) (a0 : Int) (a1 : Int) (k : List Int → Option β) : Option β :=
zq79 a0 a1 fun r3 =>
(gd ((decide (0 ≤ r3)))
((gd ((decide (r3 ≤ r3)))
((gd ((decide (8 * r3 ≤ 281474976710656)))
(zq128  N ((((List.replicate (Int.toNat r3) (0 : Int))).length : Int)) 0 a0 a1 ((List.replicate (Int.toNat r3) (0 : Int))) (fun e9_0 =>
k e9_0)))))))
theorem zt129 {β : Type} (N : Nat) (a0 : Int) (a1 : Int) (k : List Int → Option β) : zj129 N a0 a1 k = zb129 N (zj79 N) (zj128 N) a0 a1 k := by
  unfold zj129 zb129
  rfl
theorem ve176_0 {β : Type} (N : Nat) (zq79 : (a0 : Int) → (a1 : Int) → (k : Int → Option β) → Option β) (zq106 : (a0 : Int) → (k : Int → Option β) → Option β) (zq83 : (a0 : Int) → (a1 : Int) → (a2 : Int) → (k : Int → Option β) → Option β) (zq128 : Nat → Int → Int → Int → Int → List Int → (List Int → Option β) → Option β) (zq126 : Nat → Int → Int → Int → Int → Int → Int → Int → List Int → (Int → Int → Int → Int → List Int → Option β) → Option β)  (a0 : Int) (a1 : Int) (K : TV → Option β) : evFn lay (VE176 N zq79 zq106 zq83 zq128 zq126) Try.f176 [.v (.agg [.int .i64 a0, .int .i64 a1])] K = zb129 N zq79 zq128 a0 a1 (fun z2 => K (.v (.one (.sl 3 (.ints .i64 z2))))) := by kernel_rfl
theorem e176_0 {β : Type} (N : Nat)  (a0 : Int) (a1 : Int) (K : TV → Option β) : evFn lay (E176 N) Try.f176 [.v (.agg [.int .i64 a0, .int .i64 a1])] K = zj129 N a0 a1 (fun z2 => K (.v (.one (.sl 3 (.ints .i64 z2))))) := (ve176_0 N (zj79 N) (zj106 N) (zj83 N) (zj128 N) (zj126 N) a0 a1 K).trans (zt129 N a0 a1 (fun z2 => K (.v (.one (.sl 3 (.ints .i64 z2)))))).symm
theorem o176 {β : Type} (N : Nat) : SpecOK (β := β) inv Try.prog 176 (S176 N) := by
  refine spec_of lay_ok mixed (E := E176 N) (specs_loops (specs_cons (o96 N) (specs_cons (o144 N) (specs_cons (o97 N) specs_nil)))) muts_nil gs_nil Try.func176 (by kernel_rfl) 2 (by kernel_rfl) ⟨⟨trivial, rk176_0 N⟩, rk176_2 N⟩ fun args K r h => ?_
  unfold S176 VS176 at h
  split at h
  · exact (e176_0 N _ _ _).trans h
  · cases h
def VS178 {β : Type} (N : Nat) (zq130 : (a0 : Int) → (c0 : List Int) → (k : Bool → Option β) → Option β) : Rv.Spec β := fun args K => match args with
  | [.v (.one (.int .i64 a0)), .v (.one (.cref [.sl 3 (.ints .i64 c0)] 0))] => zq130 a0 c0 (fun z1 => K (.v (.one (.bool z1))))
  | _ => none
def S178 {β : Type} (N : Nat) : Rv.Spec β := VS178 N (zj130 N)
def VE178 {β : Type} (N : Nat) : Env β := ⟨[], [], [], [], ⟨[], [], [], [61]⟩⟩
def E178 {β : Type} (N : Nat) : Env β := VE178 N
def zb130 {β : Type} (N : Nat) (a0 : Int) (c0 : List Int) (k : Bool → Option β) : Option β :=
(gd ((decide (0 ≤ a0)))
((gd ((decide (a0 < (c0.length : Int))))
(k (((rd 0 c0 a0) != 0))))))
theorem zt130 {β : Type} (N : Nat) (a0 : Int) (c0 : List Int) (k : Bool → Option β) : zj130 N a0 c0 k = zb130 N a0 c0 k := by
  unfold zj130 zb130
  rfl
theorem ve178_0 {β : Type} (N : Nat)  (a0 : Int) (c0 : List Int) (K : TV → Option β) : evFn lay (VE178 N) Try.f178 [.v (.one (.int .i64 a0)), .v (.one (.cref [.sl 3 (.ints .i64 c0)] 0))] K = zb130 N a0 c0 (fun z1 => K (.v (.one (.bool z1)))) := by kernel_rfl
theorem e178_0 {β : Type} (N : Nat)  (a0 : Int) (c0 : List Int) (K : TV → Option β) : evFn lay (E178 N) Try.f178 [.v (.one (.int .i64 a0)), .v (.one (.cref [.sl 3 (.ints .i64 c0)] 0))] K = zj130 N a0 c0 (fun z1 => K (.v (.one (.bool z1)))) := (ve178_0 N a0 c0 K).trans (zt130 N a0 c0 (fun z1 => K (.v (.one (.bool z1))))).symm
theorem o178 {β : Type} (N : Nat) : SpecOK (β := β) inv Try.prog 178 (S178 N) := by
  refine spec_of lay_ok mixed (E := E178 N) (specs_loops specs_nil) muts_nil gs_nil Try.func178 (by kernel_rfl) 0 (by kernel_rfl) trivial fun args K r h => ?_
  unfold S178 VS178 at h
  split at h
  · exact (e178_0 N _ _ _).trans h
  · cases h
def VS180 {β : Type} (N : Nat) (zq131 : (a0 : Int) → (c0 : Int) → (c1 : Int) → (k : Bool → Option β) → Option β) : Rv.Spec β := fun args K => match args with
  | [.v (.one (.int .i64 a0)), .v (.one (.cref [.int .i64 c0, .int .i64 c1] 0))] => zq131 a0 c0 c1 (fun z1 => K (.v (.one (.bool z1))))
  | _ => none
def S180 {β : Type} (N : Nat) : Rv.Spec β := VS180 N (zj131 N)
def VE180 {β : Type} (N : Nat) (zq83 : (a0 : Int) → (a1 : Int) → (a2 : Int) → (k : Int → Option β) → Option β) : Env β := ⟨[(97, VS97 N zq83)], [], [], [], ⟨[], [], [], [61]⟩⟩
def E180 {β : Type} (N : Nat) : Env β := VE180 N (zj83 N)
def zb131 {β : Type} (N : Nat) (zq83 : (a0 : Int) → (a1 : Int) → (a2 : Int) → (k : Int → Option β) → Option β) (a0 : Int) (c0 : Int) (c1 : Int) (k : Bool → Option β) : Option β :=
zq83 c0 c1 a0 fun r2 =>
k ((r2 == 1))
theorem zt131 {β : Type} (N : Nat) (a0 : Int) (c0 : Int) (c1 : Int) (k : Bool → Option β) : zj131 N a0 c0 c1 k = zb131 N (zj83 N) a0 c0 c1 k := by
  unfold zj131 zb131
  rfl
theorem ve180_0 {β : Type} (N : Nat) (zq83 : (a0 : Int) → (a1 : Int) → (a2 : Int) → (k : Int → Option β) → Option β)  (a0 : Int) (c0 : Int) (c1 : Int) (K : TV → Option β) : evFn lay (VE180 N zq83) Try.f180 [.v (.one (.int .i64 a0)), .v (.one (.cref [.int .i64 c0, .int .i64 c1] 0))] K = zb131 N zq83 a0 c0 c1 (fun z1 => K (.v (.one (.bool z1)))) := by kernel_rfl
theorem e180_0 {β : Type} (N : Nat)  (a0 : Int) (c0 : Int) (c1 : Int) (K : TV → Option β) : evFn lay (E180 N) Try.f180 [.v (.one (.int .i64 a0)), .v (.one (.cref [.int .i64 c0, .int .i64 c1] 0))] K = zj131 N a0 c0 c1 (fun z1 => K (.v (.one (.bool z1)))) := (ve180_0 N (zj83 N) a0 c0 c1 K).trans (zt131 N a0 c0 c1 (fun z1 => K (.v (.one (.bool z1))))).symm
theorem o180 {β : Type} (N : Nat) : SpecOK (β := β) inv Try.prog 180 (S180 N) := by
  refine spec_of lay_ok mixed (E := E180 N) (specs_loops (specs_cons (o97 N) specs_nil)) muts_nil gs_nil Try.func180 (by kernel_rfl) 0 (by kernel_rfl) trivial fun args K r h => ?_
  unfold S180 VS180 at h
  split at h
  · exact (e180_0 N _ _ _ _).trans h
  · cases h
def VS177 {β : Type} (N : Nat) (zq134 : (a0 : Int) → (a1 : (Int → (Bool → Option β) → Option β)) → (k : Int → Option β) → Option β) (zq130 : (a0 : Int) → (c0 : List Int) → (k : Bool → Option β) → Option β) (zq131 : (a0 : Int) → (c0 : Int) → (c1 : Int) → (k : Bool → Option β) → Option β) : Rv.Spec β := fun args K => match args with
  | [.v (.one (.int .i64 a0)), .v (.one (.dfn 178 [([.sl 3 (.ints .i64 q0)], 0)]))] => zq134 a0 (fun x0 k => zq130 x0 q0 k) (fun z2 => K (.v (.one (.int .i64 z2))))
  | [.v (.one (.int .i64 a0)), .v (.one (.dfn 180 [([.int .i64 q0, .int .i64 q1], 0)]))] => zq134 a0 (fun x0 k => zq131 x0 q0 q1 k) (fun z2 => K (.v (.one (.int .i64 z2))))
  | _ => none
def S177 {β : Type} (N : Nat) : Rv.Spec β := VS177 N (zj134 N) (zj130 N) (zj131 N)
def h177_0_0 (q0 : List Int) (v0 : Int) (v1 : Int) (v2 : Int) : St := ⟨tund :: .v (.one (.dfn 178 [([.sl 3 (.ints .i64 q0)], 0)])) :: tund :: tund :: tund :: .v (.one (.int .i64 v0)) :: tund :: tund :: .v (.one (.int .i64 v1)) :: .v (.one (.int .i64 v2)) :: tund :: tund :: tund :: tund :: tund :: tund :: tund :: tund :: tund :: tund :: tund :: [], []⟩
def x177_0_0_k0 (q0 : List Int) (y0 : Int) : St := ⟨tund :: tund :: tund :: tund :: tund :: .v (.one (.int .i64 y0)) :: tund :: tund :: tund :: tund :: tund :: tund :: tund :: tund :: tund :: tund :: tund :: tund :: tund :: tund :: tund :: [], []⟩
def h177_0_1 (q0 : Int) (q1 : Int) (v0 : Int) (v1 : Int) (v2 : Int) : St := ⟨tund :: .v (.one (.dfn 180 [([.int .i64 q0, .int .i64 q1], 0)])) :: tund :: tund :: tund :: .v (.one (.int .i64 v0)) :: tund :: tund :: .v (.one (.int .i64 v1)) :: .v (.one (.int .i64 v2)) :: tund :: tund :: tund :: tund :: tund :: tund :: tund :: tund :: tund :: tund :: tund :: [], []⟩
def x177_0_1_k0 (q0 : Int) (q1 : Int) (y0 : Int) : St := ⟨tund :: tund :: tund :: tund :: tund :: .v (.one (.int .i64 y0)) :: tund :: tund :: tund :: tund :: tund :: tund :: tund :: tund :: tund :: tund :: tund :: tund :: tund :: tund :: tund :: [], []⟩
theorem fl177_0_0 (s : St) : refSt (h177_0_0 [] 0 0 0) s = h177_0_0 (rInts (rowF (nx .no (nx ([], 0) (dfnS (oneA (vT (nx tund s.tmps 1)))) 0).1 0))) (intS (oneA (vT (nx tund s.tmps 5)))) (intS (oneA (vT (nx tund s.tmps 8)))) (intS (oneA (vT (nx tund s.tmps 9)))) := by kernel_rfl
theorem fl177_0_1 (s : St) : refSt (h177_0_1 0 0 0 0 0) s = h177_0_1 (intF (nx .no (nx ([], 0) (dfnS (oneA (vT (nx tund s.tmps 1)))) 0).1 0)) (intF (nx .no (nx ([], 0) (dfnS (oneA (vT (nx tund s.tmps 1)))) 0).1 1)) (intS (oneA (vT (nx tund s.tmps 5)))) (intS (oneA (vT (nx tund s.tmps 8)))) (intS (oneA (vT (nx tund s.tmps 9)))) := by kernel_rfl
def VLS177_0 {β : Type} (N : Nat) (zq133 : (a1 : (Int → (Bool → Option β) → Option β)) → Nat → Int → Int → Int → (Int → Option β) → Option β) (zq130 : (a0 : Int) → (c0 : List Int) → (k : Bool → Option β) → Option β) (zq131 : (a0 : Int) → (c0 : Int) → (c1 : Int) → (k : Bool → Option β) → Option β) : LSpec β := fun s K => cond (shpSt (h177_0_0 [] 0 0 0) s) ((fun (q0 : List Int) (v0 : Int) (v1 : Int) (v2 : Int) => zq133 (fun x0 k => zq130 x0 q0 k) N v0 v1 v2 (fun y0 => K (.exit 0) (x177_0_0_k0 q0 y0))) (rInts (rowF (nx .no (nx ([], 0) (dfnS (oneA (vT (nx tund s.tmps 1)))) 0).1 0))) (intS (oneA (vT (nx tund s.tmps 5)))) (intS (oneA (vT (nx tund s.tmps 8)))) (intS (oneA (vT (nx tund s.tmps 9))))) (cond (shpSt (h177_0_1 0 0 0 0 0) s) ((fun (q0 : Int) (q1 : Int) (v0 : Int) (v1 : Int) (v2 : Int) => zq133 (fun x0 k => zq131 x0 q0 q1 k) N v0 v1 v2 (fun y0 => K (.exit 0) (x177_0_1_k0 q0 q1 y0))) (intF (nx .no (nx ([], 0) (dfnS (oneA (vT (nx tund s.tmps 1)))) 0).1 0)) (intF (nx .no (nx ([], 0) (dfnS (oneA (vT (nx tund s.tmps 1)))) 0).1 1)) (intS (oneA (vT (nx tund s.tmps 5)))) (intS (oneA (vT (nx tund s.tmps 8)))) (intS (oneA (vT (nx tund s.tmps 9))))) (none))
def LS177_0 {β : Type} (N : Nat) : LSpec β := VLS177_0 N (zj133 N) (zj130 N) (zj131 N)
def VE177 {β : Type} (N : Nat) (zq106 : (a0 : Int) → (k : Int → Option β) → Option β) (zq130 : (a0 : Int) → (c0 : List Int) → (k : Bool → Option β) → Option β) (zq131 : (a0 : Int) → (c0 : Int) → (c1 : Int) → (k : Bool → Option β) → Option β) (zq133 : (a1 : (Int → (Bool → Option β) → Option β)) → Nat → Int → Int → Int → (Int → Option β) → Option β) : Env β := ⟨[(144, VS144 N zq106), (178, VS178 N zq130), (180, VS180 N zq131)], [], [(0, VLS177_0 N zq133 zq130 zq131)], [], ⟨[], [], [], [61]⟩⟩
def E177 {β : Type} (N : Nat) : Env β := VE177 N (zj106 N) (zj130 N) (zj131 N) (zj133 N)
def zb132 {β : Type} (N : Nat) (zq106 : (a0 : Int) → (k : Int → Option β) → Option β) (a1 : (Int → (Bool → Option β) → Option β)) (v0 : Int) (v1 : Int) (v2 : Int) (rec_ : Int → Int → Int → Option β) (k0 : Int → Option β) : Option β :=
(cond ((decide (v2 < v1)))
(a1 v2 fun r3 =>
(cond r3
(zq106 v2 fun r4 =>
rec_ ((mxI v0 r4)) v1 ((w64 (v2 + 1))))
(rec_ v0 v1 ((w64 (v2 + 1))))))
(k0 v0))
theorem zt132 {β : Type} (N : Nat) (a1 : (Int → (Bool → Option β) → Option β)) (v0 : Int) (v1 : Int) (v2 : Int) (rec_ : Int → Int → Int → Option β) (k0 : Int → Option β) : zj132 N a1 v0 v1 v2 rec_ k0 = zb132 N (zj106 N) a1 v0 v1 v2 rec_ k0 := by
  unfold zj132 zb132
  rfl
theorem vst177_0_0 {β : Type} (N : Nat) (zq106 : (a0 : Int) → (k : Int → Option β) → Option β) (zq130 : (a0 : Int) → (c0 : List Int) → (k : Bool → Option β) → Option β) (zq131 : (a0 : Int) → (c0 : Int) → (c1 : Int) → (k : Bool → Option β) → Option β) (zq133 : (a1 : (Int → (Bool → Option β) → Option β)) → Nat → Int → Int → Int → (Int → Option β) → Option β) (q0 : List Int) (v0 : Int) (v1 : Int) (v2 : Int) (rec_ : St → Option β) (K : Exit → St → Option β) :
    ev lay (VE177 N zq106 zq130 zq131 zq133) (retMask Try.f177) (lp Try.f177 0).body (lp Try.f177 0).ex ((lp Try.f177 0).lv (retMask Try.f177)) (h177_0_0 q0 v0 v1 v2) (nextR (fun s' => rec_ (s'.tidy ((lp Try.f177 0).lv (retMask Try.f177)))) K) = zb132 N zq106 (fun x0 k => zq130 x0 q0 k) v0 v1 v2 (fun v0 v1 v2 => rec_ (h177_0_0 q0 v0 v1 v2)) (fun y0 => K (.exit 0) (x177_0_0_k0 q0 y0)) := by kernel_rfl
theorem st177_0_0 {β : Type} (N : Nat) (q0 : List Int) (v0 : Int) (v1 : Int) (v2 : Int) (rec_ : St → Option β) (K : Exit → St → Option β) :
    ev lay (E177 N) (retMask Try.f177) (lp Try.f177 0).body (lp Try.f177 0).ex ((lp Try.f177 0).lv (retMask Try.f177)) (h177_0_0 q0 v0 v1 v2) (nextR (fun s' => rec_ (s'.tidy ((lp Try.f177 0).lv (retMask Try.f177)))) K) = zj132 N (fun x0 k => zj130 N x0 q0 k) v0 v1 v2 (fun v0 v1 v2 => rec_ (h177_0_0 q0 v0 v1 v2)) (fun y0 => K (.exit 0) (x177_0_0_k0 q0 y0)) := (vst177_0_0 N (zj106 N) (zj130 N) (zj131 N) (zj133 N) q0 v0 v1 v2 rec_ K).trans (zt132 N (fun x0 k => zj130 N x0 q0 k) v0 v1 v2 (fun v0 v1 v2 => rec_ (h177_0_0 q0 v0 v1 v2)) (fun y0 => K (.exit 0) (x177_0_0_k0 q0 y0))).symm
theorem ro177_0_0 {β : Type} (N : Nat) (q0 : List Int) (K : Exit → St → Option β) : ∀ (F : Nat) (v0 : Int) (v1 : Int) (v2 : Int), (lp Try.f177 0).rounds lay (E177 N) (retMask Try.f177) F (h177_0_0 q0 v0 v1 v2) K = zj133 N (fun x0 k => zj130 N x0 q0 k) F v0 v1 v2 (fun y0 => K (.exit 0) (x177_0_0_k0 q0 y0)) := by
  intro F
  induction F with
  | zero => intros; rfl
  | succ F ih =>
    intros
    rw [rounds_next]
    refine (st177_0_0 N q0 _ _ _ (fun s => (lp Try.f177 0).rounds lay (E177 N) (retMask Try.f177) F s K) K).trans ?_
    simp only [ih]
    rfl
theorem vst177_0_1 {β : Type} (N : Nat) (zq106 : (a0 : Int) → (k : Int → Option β) → Option β) (zq130 : (a0 : Int) → (c0 : List Int) → (k : Bool → Option β) → Option β) (zq131 : (a0 : Int) → (c0 : Int) → (c1 : Int) → (k : Bool → Option β) → Option β) (zq133 : (a1 : (Int → (Bool → Option β) → Option β)) → Nat → Int → Int → Int → (Int → Option β) → Option β) (q0 : Int) (q1 : Int) (v0 : Int) (v1 : Int) (v2 : Int) (rec_ : St → Option β) (K : Exit → St → Option β) :
    ev lay (VE177 N zq106 zq130 zq131 zq133) (retMask Try.f177) (lp Try.f177 0).body (lp Try.f177 0).ex ((lp Try.f177 0).lv (retMask Try.f177)) (h177_0_1 q0 q1 v0 v1 v2) (nextR (fun s' => rec_ (s'.tidy ((lp Try.f177 0).lv (retMask Try.f177)))) K) = zb132 N zq106 (fun x0 k => zq131 x0 q0 q1 k) v0 v1 v2 (fun v0 v1 v2 => rec_ (h177_0_1 q0 q1 v0 v1 v2)) (fun y0 => K (.exit 0) (x177_0_1_k0 q0 q1 y0)) := by kernel_rfl
theorem st177_0_1 {β : Type} (N : Nat) (q0 : Int) (q1 : Int) (v0 : Int) (v1 : Int) (v2 : Int) (rec_ : St → Option β) (K : Exit → St → Option β) :
    ev lay (E177 N) (retMask Try.f177) (lp Try.f177 0).body (lp Try.f177 0).ex ((lp Try.f177 0).lv (retMask Try.f177)) (h177_0_1 q0 q1 v0 v1 v2) (nextR (fun s' => rec_ (s'.tidy ((lp Try.f177 0).lv (retMask Try.f177)))) K) = zj132 N (fun x0 k => zj131 N x0 q0 q1 k) v0 v1 v2 (fun v0 v1 v2 => rec_ (h177_0_1 q0 q1 v0 v1 v2)) (fun y0 => K (.exit 0) (x177_0_1_k0 q0 q1 y0)) := (vst177_0_1 N (zj106 N) (zj130 N) (zj131 N) (zj133 N) q0 q1 v0 v1 v2 rec_ K).trans (zt132 N (fun x0 k => zj131 N x0 q0 q1 k) v0 v1 v2 (fun v0 v1 v2 => rec_ (h177_0_1 q0 q1 v0 v1 v2)) (fun y0 => K (.exit 0) (x177_0_1_k0 q0 q1 y0))).symm
theorem ro177_0_1 {β : Type} (N : Nat) (q0 : Int) (q1 : Int) (K : Exit → St → Option β) : ∀ (F : Nat) (v0 : Int) (v1 : Int) (v2 : Int), (lp Try.f177 0).rounds lay (E177 N) (retMask Try.f177) F (h177_0_1 q0 q1 v0 v1 v2) K = zj133 N (fun x0 k => zj131 N x0 q0 q1 k) F v0 v1 v2 (fun y0 => K (.exit 0) (x177_0_1_k0 q0 q1 y0)) := by
  intro F
  induction F with
  | zero => intros; rfl
  | succ F ih =>
    intros
    rw [rounds_next]
    refine (st177_0_1 N q0 q1 _ _ _ (fun s => (lp Try.f177 0).rounds lay (E177 N) (retMask Try.f177) F s K) K).trans ?_
    simp only [ih]
    rfl
theorem lk177_0 {β : Type} (N : Nat) : lookL (E177 (β := β) N).loops (lp Try.f177 0).id = LS177_0 N := by kernel_rfl
theorem rk177_0 {β : Type} (N : Nat) : RoundsOK lay (E177 (β := β) N) (retMask Try.f177) (lp Try.f177 0) := by
  intro s K r h
  rw [lk177_0] at h
  unfold LS177_0 VLS177_0 at h
  cases hb : shpSt (h177_0_0 [] 0 0 0) s with
  | true =>
    rw [hb, cond_true] at h
    exact ⟨N, by rw [← shpSt_ref hb, fl177_0_0 s]; exact (ro177_0_0 N (rInts (rowF (nx .no (nx ([], 0) (dfnS (oneA (vT (nx tund s.tmps 1)))) 0).1 0))) K N (intS (oneA (vT (nx tund s.tmps 5)))) (intS (oneA (vT (nx tund s.tmps 8)))) (intS (oneA (vT (nx tund s.tmps 9))))).trans h⟩
  | false =>
  rw [hb, cond_false] at h
  clear hb
  cases hb : shpSt (h177_0_1 0 0 0 0 0) s with
  | true =>
    rw [hb, cond_true] at h
    exact ⟨N, by rw [← shpSt_ref hb, fl177_0_1 s]; exact (ro177_0_1 N (intF (nx .no (nx ([], 0) (dfnS (oneA (vT (nx tund s.tmps 1)))) 0).1 0)) (intF (nx .no (nx ([], 0) (dfnS (oneA (vT (nx tund s.tmps 1)))) 0).1 1)) K N (intS (oneA (vT (nx tund s.tmps 5)))) (intS (oneA (vT (nx tund s.tmps 8)))) (intS (oneA (vT (nx tund s.tmps 9))))).trans h⟩
  | false =>
  rw [hb, cond_false] at h
  clear hb
  cases h
def zb134 {β : Type} (N : Nat) (zq133 : (a1 : (Int → (Bool → Option β) → Option β)) → Nat → Int → Int → Int → (Int → Option β) → Option β) (a0 : Int) (a1 : (Int → (Bool → Option β) → Option β)) (k : Int → Option β) : Option β :=
(gd ((decide (0 ≤ a0)))
(zq133 a1 N (-1) ((shlI .i64 1 a0)) 0 (fun e5_0 =>
k e5_0)))
theorem zt134 {β : Type} (N : Nat) (a0 : Int) (a1 : (Int → (Bool → Option β) → Option β)) (k : Int → Option β) : zj134 N a0 a1 k = zb134 N (zj133 N) a0 a1 k := by
  unfold zj134 zb134
  rfl
theorem ve177_0 {β : Type} (N : Nat) (zq106 : (a0 : Int) → (k : Int → Option β) → Option β) (zq130 : (a0 : Int) → (c0 : List Int) → (k : Bool → Option β) → Option β) (zq131 : (a0 : Int) → (c0 : Int) → (c1 : Int) → (k : Bool → Option β) → Option β) (zq133 : (a1 : (Int → (Bool → Option β) → Option β)) → Nat → Int → Int → Int → (Int → Option β) → Option β) (q0 : List Int) (a0 : Int) (K : TV → Option β) : evFn lay (VE177 N zq106 zq130 zq131 zq133) Try.f177 [.v (.one (.int .i64 a0)), .v (.one (.dfn 178 [([.sl 3 (.ints .i64 q0)], 0)]))] K = zb134 N zq133 a0 (fun x0 k => zq130 x0 q0 k) (fun z2 => K (.v (.one (.int .i64 z2)))) := by kernel_rfl
theorem e177_0 {β : Type} (N : Nat) (q0 : List Int) (a0 : Int) (K : TV → Option β) : evFn lay (E177 N) Try.f177 [.v (.one (.int .i64 a0)), .v (.one (.dfn 178 [([.sl 3 (.ints .i64 q0)], 0)]))] K = zj134 N a0 (fun x0 k => zj130 N x0 q0 k) (fun z2 => K (.v (.one (.int .i64 z2)))) := (ve177_0 N (zj106 N) (zj130 N) (zj131 N) (zj133 N) q0 a0 K).trans (zt134 N a0 (fun x0 k => zj130 N x0 q0 k) (fun z2 => K (.v (.one (.int .i64 z2))))).symm
theorem ve177_1 {β : Type} (N : Nat) (zq106 : (a0 : Int) → (k : Int → Option β) → Option β) (zq130 : (a0 : Int) → (c0 : List Int) → (k : Bool → Option β) → Option β) (zq131 : (a0 : Int) → (c0 : Int) → (c1 : Int) → (k : Bool → Option β) → Option β) (zq133 : (a1 : (Int → (Bool → Option β) → Option β)) → Nat → Int → Int → Int → (Int → Option β) → Option β) (q0 : Int) (q1 : Int) (a0 : Int) (K : TV → Option β) : evFn lay (VE177 N zq106 zq130 zq131 zq133) Try.f177 [.v (.one (.int .i64 a0)), .v (.one (.dfn 180 [([.int .i64 q0, .int .i64 q1], 0)]))] K = zb134 N zq133 a0 (fun x0 k => zq131 x0 q0 q1 k) (fun z2 => K (.v (.one (.int .i64 z2)))) := by kernel_rfl
theorem e177_1 {β : Type} (N : Nat) (q0 : Int) (q1 : Int) (a0 : Int) (K : TV → Option β) : evFn lay (E177 N) Try.f177 [.v (.one (.int .i64 a0)), .v (.one (.dfn 180 [([.int .i64 q0, .int .i64 q1], 0)]))] K = zj134 N a0 (fun x0 k => zj131 N x0 q0 q1 k) (fun z2 => K (.v (.one (.int .i64 z2)))) := (ve177_1 N (zj106 N) (zj130 N) (zj131 N) (zj133 N) q0 q1 a0 K).trans (zt134 N a0 (fun x0 k => zj131 N x0 q0 q1 k) (fun z2 => K (.v (.one (.int .i64 z2))))).symm
theorem o177 {β : Type} (N : Nat) : SpecOK (β := β) inv Try.prog 177 (S177 N) := by
  refine spec_of lay_ok mixed (E := E177 N) (specs_loops (specs_cons (o144 N) (specs_cons (o178 N) (specs_cons (o180 N) specs_nil)))) muts_nil gs_nil Try.func177 (by kernel_rfl) 1 (by kernel_rfl) ⟨trivial, rk177_0 N⟩ fun args K r h => ?_
  unfold S177 VS177 at h
  split at h
  · exact (e177_0 N _ _ _).trans h
  · exact (e177_1 N _ _ _ _).trans h
  · cases h
def VS139 {β : Type} (N : Nat) (zq135 : (a0 : Int) → (a1 : Int) → (k : Int → Option β) → Option β) : Rv.Spec β := fun args K => match args with
  | [.v (.agg [.int .i64 a0, .int .i64 a1])] => zq135 a0 a1 (fun z2 => K (.v (.one (.int .i64 z2))))
  | _ => none
def S139 {β : Type} (N : Nat) : Rv.Spec β := VS139 N (zj135 N)
def VE139 {β : Type} (N : Nat) (zq80 : (a0 : Int) → (a1 : Int) → (k : Bool → Option β) → Option β) (zq129 : (a0 : Int) → (a1 : Int) → (k : List Int → Option β) → Option β) (zq134 : (a0 : Int) → (a1 : (Int → (Bool → Option β) → Option β)) → (k : Int → Option β) → Option β) (zq130 : (a0 : Int) → (c0 : List Int) → (k : Bool → Option β) → Option β) (zq131 : (a0 : Int) → (c0 : Int) → (c1 : Int) → (k : Bool → Option β) → Option β) : Env β := ⟨[(82, VS82 N zq80), (176, VS176 N zq129), (177, VS177 N zq134 zq130 zq131), (178, VS178 N zq130)], [], [], [], ⟨[], [], [], [61]⟩⟩
def E139 {β : Type} (N : Nat) : Env β := VE139 N (zj80 N) (zj129 N) (zj134 N) (zj130 N) (zj131 N)
def zb135 {β : Type} (N : Nat) (zq80 : (a0 : Int) → (a1 : Int) → (k : Bool → Option β) → Option β) (zq129 : (a0 : Int) → (a1 : Int) → (k : List Int → Option β) → Option β) (zq134 : (a0 : Int) → (a1 : (Int → (Bool → Option β) → Option β)) → (k : Int → Option β) → Option β) (zq130 : (a0 : Int) → (c0 : List Int) → (k : Bool → Option β) → Option β) (a0 : Int) (a1 : Int) (k : Int → Option β) : Option β :=
zq80 a0 a1 fun r3 =>
(cond (!r3)
(k (-2))
(zq129 a0 a1 fun r4 =>
zq134 a0 (fun x0 k => zq130 x0 r4 k) fun r5 =>
k r5))
theorem zt135 {β : Type} (N : Nat) (a0 : Int) (a1 : Int) (k : Int → Option β) : zj135 N a0 a1 k = zb135 N (zj80 N) (zj129 N) (zj134 N) (zj130 N) a0 a1 k := by
  unfold zj135 zb135
  rfl
theorem ve139_0 {β : Type} (N : Nat) (zq80 : (a0 : Int) → (a1 : Int) → (k : Bool → Option β) → Option β) (zq129 : (a0 : Int) → (a1 : Int) → (k : List Int → Option β) → Option β) (zq134 : (a0 : Int) → (a1 : (Int → (Bool → Option β) → Option β)) → (k : Int → Option β) → Option β) (zq130 : (a0 : Int) → (c0 : List Int) → (k : Bool → Option β) → Option β) (zq131 : (a0 : Int) → (c0 : Int) → (c1 : Int) → (k : Bool → Option β) → Option β)  (a0 : Int) (a1 : Int) (K : TV → Option β) : evFn lay (VE139 N zq80 zq129 zq134 zq130 zq131) Try.f139 [.v (.agg [.int .i64 a0, .int .i64 a1])] K = zb135 N zq80 zq129 zq134 zq130 a0 a1 (fun z2 => K (.v (.one (.int .i64 z2)))) := by kernel_rfl
theorem e139_0 {β : Type} (N : Nat)  (a0 : Int) (a1 : Int) (K : TV → Option β) : evFn lay (E139 N) Try.f139 [.v (.agg [.int .i64 a0, .int .i64 a1])] K = zj135 N a0 a1 (fun z2 => K (.v (.one (.int .i64 z2)))) := (ve139_0 N (zj80 N) (zj129 N) (zj134 N) (zj130 N) (zj131 N) a0 a1 K).trans (zt135 N a0 a1 (fun z2 => K (.v (.one (.int .i64 z2))))).symm
theorem o139 {β : Type} (N : Nat) : SpecOK (β := β) inv Try.prog 139 (S139 N) := by
  refine spec_of lay_ok mixed (E := E139 N) (specs_loops (specs_cons (o82 N) (specs_cons (o176 N) (specs_cons (o177 N) (specs_cons (o178 N) specs_nil))))) muts_nil gs_nil Try.func139 (by kernel_rfl) 0 (by kernel_rfl) trivial fun args K r h => ?_
  unfold S139 VS139 at h
  split at h
  · exact (e139_0 N _ _ _).trans h
  · cases h
end Go.Proofs.Ytfdggelojmofmaa
