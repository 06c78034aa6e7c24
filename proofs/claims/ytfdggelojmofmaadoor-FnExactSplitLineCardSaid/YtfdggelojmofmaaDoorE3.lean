/- The functions that the claims reach answer as their texts do. -/
import Derived.Test.YtfdggelojmofmaaDoorE2
namespace Go.Proofs.YtfdggelojmofmaaDoor
open Go.Rv
set_option maxRecDepth 100000
set_option maxHeartbeats 2000000
set_option linter.unusedVariables false
def VSF154 {β : Type} (N : Nat) (zq55 : Nat → List Int → Int → Int → Int → (ByteArray → Option β) → Option β) (G : Nat) : Rv.Spec β := fun args K => match args with
  | [.v (.one (.sl 3 (.ints .i64 a0))), .v (.one (.int .i64 a1)), .v (.one (.int .i64 a2)), .v (.one (.int .i64 a3))] => zq55 G a0 a1 a2 a3 (fun z4 => K (.v (.one (.str z4))))
  | _ => none
def SF154 {β : Type} (N : Nat) (G : Nat) : Rv.Spec β := VSF154 N (zj55 N) G
def VS154 {β : Type} (N : Nat) (zq55 : Nat → List Int → Int → Int → Int → (ByteArray → Option β) → Option β) : Rv.Spec β := VSF154 N zq55 N
def S154 {β : Type} (N : Nat) : Rv.Spec β := SF154 N N
def h154_0_0  (v0 : List Int) (v1 : Int) (v2 : Int) (v3 : Int) (v4 : Int) : St := ⟨.v (.one (.sl 3 (.ints .i64 v0))) :: .v (.one (.int .i64 v1)) :: .v (.one (.int .i64 v2)) :: .v (.one (.int .i64 v3)) :: tund :: tund :: tund :: tund :: tund :: tund :: .v (.one (.int .i64 v4)) :: tund :: tund :: tund :: tund :: tund :: tund :: tund :: tund :: tund :: tund :: tund :: tund :: tund :: tund :: tund :: tund :: tund :: tund :: tund :: tund :: tund :: tund :: tund :: tund :: tund :: tund :: tund :: tund :: tund :: tund :: tund :: tund :: tund :: tund :: tund :: tund :: tund :: tund :: tund :: tund :: tund :: tund :: tund :: tund :: tund :: tund :: tund :: tund :: tund :: tund :: tund :: tund :: tund :: tund :: tund :: tund :: tund :: tund :: tund :: tund :: tund :: tund :: tund :: tund :: tund :: tund :: tund :: tund :: tund :: tund :: tund :: tund :: tund :: tund :: tund :: tund :: tund :: tund :: tund :: tund :: tund :: tund :: tund :: tund :: tund :: tund :: tund :: tund :: tund :: tund :: tund :: tund :: tund :: tund :: tund :: tund :: tund :: tund :: tund :: tund :: tund :: tund :: tund :: tund :: tund :: tund :: tund :: tund :: tund :: tund :: tund :: tund :: tund :: tund :: tund :: tund :: tund :: tund :: tund :: tund :: tund :: tund :: tund :: tund :: tund :: tund :: tund :: tund :: tund :: tund :: tund :: tund :: tund :: [], []⟩
def x154_0_0_k0  (y0 : ByteArray) : St := ⟨tund :: tund :: tund :: tund :: tund :: tund :: tund :: tund :: .v (.one (.str y0)) :: tund :: tund :: tund :: tund :: tund :: tund :: tund :: tund :: tund :: tund :: tund :: tund :: tund :: tund :: tund :: tund :: tund :: tund :: tund :: tund :: tund :: tund :: tund :: tund :: tund :: tund :: tund :: tund :: tund :: tund :: tund :: tund :: tund :: tund :: tund :: tund :: tund :: tund :: tund :: tund :: tund :: tund :: tund :: tund :: tund :: tund :: tund :: tund :: tund :: tund :: tund :: tund :: tund :: tund :: tund :: tund :: tund :: tund :: tund :: tund :: tund :: tund :: tund :: tund :: tund :: tund :: tund :: tund :: tund :: tund :: tund :: tund :: tund :: tund :: tund :: tund :: tund :: tund :: tund :: tund :: tund :: tund :: tund :: tund :: tund :: tund :: tund :: tund :: tund :: tund :: tund :: tund :: tund :: tund :: tund :: tund :: tund :: tund :: tund :: tund :: tund :: tund :: tund :: tund :: tund :: tund :: tund :: tund :: tund :: tund :: tund :: tund :: tund :: tund :: tund :: tund :: tund :: tund :: tund :: tund :: tund :: tund :: tund :: tund :: tund :: tund :: tund :: tund :: tund :: tund :: tund :: tund :: tund :: tund :: tund :: [], []⟩
def x154_0_0_k1  (y0 : List Int) (y1 : Int) (y2 : Int) (y3 : Int) : St := ⟨.v (.one (.sl 3 (.ints .i64 y0))) :: .v (.one (.int .i64 y1)) :: .v (.one (.int .i64 y2)) :: .v (.one (.int .i64 y3)) :: tund :: tund :: tund :: tund :: tund :: tund :: tund :: tund :: tund :: tund :: tund :: tund :: tund :: tund :: tund :: tund :: tund :: tund :: tund :: tund :: tund :: tund :: tund :: tund :: tund :: tund :: tund :: tund :: tund :: tund :: tund :: tund :: tund :: tund :: tund :: tund :: tund :: tund :: tund :: tund :: tund :: tund :: tund :: tund :: tund :: tund :: tund :: tund :: tund :: tund :: tund :: tund :: tund :: tund :: tund :: tund :: tund :: tund :: tund :: tund :: tund :: tund :: tund :: tund :: tund :: tund :: tund :: tund :: tund :: tund :: tund :: tund :: tund :: tund :: tund :: tund :: tund :: tund :: tund :: tund :: tund :: tund :: tund :: tund :: tund :: tund :: tund :: tund :: tund :: tund :: tund :: tund :: tund :: tund :: tund :: tund :: tund :: tund :: tund :: tund :: tund :: tund :: tund :: tund :: tund :: tund :: tund :: tund :: tund :: tund :: tund :: tund :: tund :: tund :: tund :: tund :: tund :: tund :: tund :: tund :: tund :: tund :: tund :: tund :: tund :: tund :: tund :: tund :: tund :: tund :: tund :: tund :: tund :: tund :: tund :: tund :: tund :: tund :: tund :: tund :: [], []⟩
def h154_1_0  (v0 : List Int) (v1 : Int) (v2 : Int) (v3 : Int) (v4 : Int) : St := ⟨.v (.one (.sl 3 (.ints .i64 v0))) :: .v (.one (.int .i64 v1)) :: .v (.one (.int .i64 v2)) :: .v (.one (.int .i64 v3)) :: tund :: tund :: tund :: tund :: tund :: tund :: tund :: .v (.one (.int .i64 v4)) :: tund :: tund :: tund :: tund :: tund :: tund :: tund :: tund :: tund :: tund :: tund :: tund :: tund :: tund :: tund :: tund :: tund :: tund :: tund :: tund :: tund :: tund :: tund :: tund :: tund :: tund :: tund :: tund :: tund :: tund :: tund :: tund :: tund :: tund :: tund :: tund :: tund :: tund :: tund :: tund :: tund :: tund :: tund :: tund :: tund :: tund :: tund :: tund :: tund :: tund :: tund :: tund :: tund :: tund :: tund :: tund :: tund :: tund :: tund :: tund :: tund :: tund :: tund :: tund :: tund :: tund :: tund :: tund :: tund :: tund :: tund :: tund :: tund :: tund :: tund :: tund :: tund :: tund :: tund :: tund :: tund :: tund :: tund :: tund :: tund :: tund :: tund :: tund :: tund :: tund :: tund :: tund :: tund :: tund :: tund :: tund :: tund :: tund :: tund :: tund :: tund :: tund :: tund :: tund :: tund :: tund :: tund :: tund :: tund :: tund :: tund :: tund :: tund :: tund :: tund :: tund :: tund :: tund :: tund :: tund :: tund :: tund :: tund :: tund :: tund :: tund :: tund :: tund :: tund :: tund :: tund :: tund :: [], []⟩
def x154_1_0_k0  (y0 : ByteArray) : St := ⟨tund :: tund :: tund :: tund :: tund :: tund :: tund :: tund :: .v (.one (.str y0)) :: tund :: tund :: tund :: tund :: tund :: tund :: tund :: tund :: tund :: tund :: tund :: tund :: tund :: tund :: tund :: tund :: tund :: tund :: tund :: tund :: tund :: tund :: tund :: tund :: tund :: tund :: tund :: tund :: tund :: tund :: tund :: tund :: tund :: tund :: tund :: tund :: tund :: tund :: tund :: tund :: tund :: tund :: tund :: tund :: tund :: tund :: tund :: tund :: tund :: tund :: tund :: tund :: tund :: tund :: tund :: tund :: tund :: tund :: tund :: tund :: tund :: tund :: tund :: tund :: tund :: tund :: tund :: tund :: tund :: tund :: tund :: tund :: tund :: tund :: tund :: tund :: tund :: tund :: tund :: tund :: tund :: tund :: tund :: tund :: tund :: tund :: tund :: tund :: tund :: tund :: tund :: tund :: tund :: tund :: tund :: tund :: tund :: tund :: tund :: tund :: tund :: tund :: tund :: tund :: tund :: tund :: tund :: tund :: tund :: tund :: tund :: tund :: tund :: tund :: tund :: tund :: tund :: tund :: tund :: tund :: tund :: tund :: tund :: tund :: tund :: tund :: tund :: tund :: tund :: tund :: tund :: tund :: tund :: tund :: tund :: [], []⟩
def x154_1_0_k1   : St := ⟨tund :: tund :: tund :: tund :: tund :: tund :: tund :: tund :: tund :: tund :: tund :: tund :: tund :: tund :: tund :: tund :: tund :: tund :: tund :: tund :: tund :: tund :: tund :: tund :: tund :: tund :: tund :: tund :: tund :: tund :: tund :: tund :: tund :: tund :: tund :: tund :: tund :: tund :: tund :: tund :: tund :: tund :: tund :: tund :: tund :: tund :: tund :: tund :: tund :: tund :: tund :: tund :: tund :: tund :: tund :: tund :: tund :: tund :: tund :: tund :: tund :: tund :: tund :: tund :: tund :: tund :: tund :: tund :: tund :: tund :: tund :: tund :: tund :: tund :: tund :: tund :: tund :: tund :: tund :: tund :: tund :: tund :: tund :: tund :: tund :: tund :: tund :: tund :: tund :: tund :: tund :: tund :: tund :: tund :: tund :: tund :: tund :: tund :: tund :: tund :: tund :: tund :: tund :: tund :: tund :: tund :: tund :: tund :: tund :: tund :: tund :: tund :: tund :: tund :: tund :: tund :: tund :: tund :: tund :: tund :: tund :: tund :: tund :: tund :: tund :: tund :: tund :: tund :: tund :: tund :: tund :: tund :: tund :: tund :: tund :: tund :: tund :: tund :: tund :: tund :: tund :: tund :: tund :: tund :: [], []⟩
theorem fl154_0_0 (s : St) : refSt (h154_0_0 [] 0 0 0 0) s = h154_0_0 (rInts (rowV (oneA (vT (nx tund s.tmps 0))))) (intS (oneA (vT (nx tund s.tmps 1)))) (intS (oneA (vT (nx tund s.tmps 2)))) (intS (oneA (vT (nx tund s.tmps 3)))) (intS (oneA (vT (nx tund s.tmps 10)))) := by kernel_rfl
def VLS154_0 {β : Type} (N : Nat) (zq51 : (self : List Int → Int → Int → Int → (ByteArray → Option β) → Option β) → Nat → List Int → Int → Int → Int → Int → (ByteArray → Option β) → (List Int → Int → Int → Int → Option β) → Option β) (zq55 : Nat → List Int → Int → Int → Int → (ByteArray → Option β) → Option β) (G : Nat) : LSpec β := fun s K => cond (shpSt (h154_0_0 [] 0 0 0 0) s) ((fun (v0 : List Int) (v1 : Int) (v2 : Int) (v3 : Int) (v4 : Int) => zq51 (zq55 G)  N v0 v1 v2 v3 v4 (fun y0 => K .ret (x154_0_0_k0  y0)) (fun y0 y1 y2 y3 => K (.exit 0) (x154_0_0_k1  y0 y1 y2 y3))) (rInts (rowV (oneA (vT (nx tund s.tmps 0))))) (intS (oneA (vT (nx tund s.tmps 1)))) (intS (oneA (vT (nx tund s.tmps 2)))) (intS (oneA (vT (nx tund s.tmps 3)))) (intS (oneA (vT (nx tund s.tmps 10))))) (none)
def LS154_0 {β : Type} (N : Nat) (G : Nat) : LSpec β := VLS154_0 N (zj51 N) (zj55 N) G
theorem fl154_1_0 (s : St) : refSt (h154_1_0 [] 0 0 0 0) s = h154_1_0 (rInts (rowV (oneA (vT (nx tund s.tmps 0))))) (intS (oneA (vT (nx tund s.tmps 1)))) (intS (oneA (vT (nx tund s.tmps 2)))) (intS (oneA (vT (nx tund s.tmps 3)))) (intS (oneA (vT (nx tund s.tmps 11)))) := by kernel_rfl
def VLS154_2 {β : Type} (N : Nat) (zq53 : (self : List Int → Int → Int → Int → (ByteArray → Option β) → Option β) → Nat → List Int → Int → Int → Int → Int → (ByteArray → Option β) → (Option β) → Option β) (zq55 : Nat → List Int → Int → Int → Int → (ByteArray → Option β) → Option β) (G : Nat) : LSpec β := fun s K => cond (shpSt (h154_1_0 [] 0 0 0 0) s) ((fun (v0 : List Int) (v1 : Int) (v2 : Int) (v3 : Int) (v4 : Int) => zq53 (zq55 G)  N v0 v1 v2 v3 v4 (fun y0 => K .ret (x154_1_0_k0  y0)) (K (.exit 2) (x154_1_0_k1  ))) (rInts (rowV (oneA (vT (nx tund s.tmps 0))))) (intS (oneA (vT (nx tund s.tmps 1)))) (intS (oneA (vT (nx tund s.tmps 2)))) (intS (oneA (vT (nx tund s.tmps 3)))) (intS (oneA (vT (nx tund s.tmps 11))))) (none)
def LS154_2 {β : Type} (N : Nat) (G : Nat) : LSpec β := VLS154_2 N (zj53 N) (zj55 N) G
def VE154 {β : Type} (N : Nat) (zq40 : (a0 : List Int) → (a1 : Int) → (a2 : Int) → (k : Int → Option β) → Option β) (zq46 : Nat → List Int → Int → Int → Int → (Int → Option β) → Option β) (zq49 : (a0 : Int) → (k : ByteArray → Option β) → Option β) (zq55 : Nat → List Int → Int → Int → Int → (ByteArray → Option β) → Option β) (zq51 : (self : List Int → Int → Int → Int → (ByteArray → Option β) → Option β) → Nat → List Int → Int → Int → Int → Int → (ByteArray → Option β) → (List Int → Int → Int → Int → Option β) → Option β) (zq53 : (self : List Int → Int → Int → Int → (ByteArray → Option β) → Option β) → Nat → List Int → Int → Int → Int → Int → (ByteArray → Option β) → (Option β) → Option β) (G : Nat) : Env β := ⟨[(203, VS203 N zq40), (155, VS155 N zq46), (204, VS204 N zq49), (154, VSF154 N zq55 G)], [], [(0, VLS154_0 N zq51 zq55 G), (2, VLS154_2 N zq53 zq55 G)], [], ⟨[], [], [153]⟩⟩
def E154 {β : Type} (N : Nat) (G : Nat) : Env β := VE154 N (zj40 N) (zj46 N) (zj49 N) (zj55 N) (zj51 N) (zj53 N) G
def zb50 {β : Type} (N : Nat) (zq46 : Nat → List Int → Int → Int → Int → (Int → Option β) → Option β) (zq49 : (a0 : Int) → (k : ByteArray → Option β) → Option β) (self : List Int → Int → Int → Int → (ByteArray → Option β) → Option β)  (v0 : List Int) (v1 : Int) (v2 : Int) (v3 : Int) (v4 : Int) (rec_ : List Int → Int → Int → Int → Int → Option β) (k0 : ByteArray → Option β) (k1 : List Int → Int → Int → Int → Option β) : Option β :=
(cond ((decide (v4 < v1)))
((cond (((bits .and .i64 v4 v1) == v4))
(zq46 N v0 v4 v2 ((w64 (v3 - 1))) fun r6 =>
(cond ((decide (r6 < v3)))
(zq46 N v0 ((w64 (v1 - v4))) v2 ((w64 (v3 - 1))) fun r7 =>
(cond ((decide (r7 < v3)))
(zq49 v4 fun r8 =>
(gd ((decide (((strOf [65])).size + r8.size ≤ 9223372036854775807)))
(zq46 N v0 ((w64 (v1 - v4))) v2 ((w64 (v3 - 1))) fun r9 =>
self v0 ((w64 (v1 - v4))) v2 r9 fun r10 =>
(gd ((decide ((((strOf [65]) ++ r8)).size + r10.size ≤ 9223372036854775807)))
(zq46 N v0 v4 v2 ((w64 (v3 - 1))) fun r11 =>
self v0 v4 v2 r11 fun r12 =>
(gd ((decide (((((strOf [65]) ++ r8) ++ r10)).size + r12.size ≤ 9223372036854775807)))
(k0 (((((strOf [65]) ++ r8) ++ r10) ++ r12)))))))))
(rec_ v0 v1 v2 v3 ((w64 (v4 + 1))))))
(rec_ v0 v1 v2 v3 ((w64 (v4 + 1))))))
(rec_ v0 v1 v2 v3 ((w64 (v4 + 1))))))
(k1 v0 v1 v2 v3))
theorem zt50 {β : Type} (N : Nat) (self : List Int → Int → Int → Int → (ByteArray → Option β) → Option β)  (v0 : List Int) (v1 : Int) (v2 : Int) (v3 : Int) (v4 : Int) (rec_ : List Int → Int → Int → Int → Int → Option β) (k0 : ByteArray → Option β) (k1 : List Int → Int → Int → Int → Option β) : zj50 N self v0 v1 v2 v3 v4 rec_ k0 k1 = zb50 N (zj46 N) (zj49 N) self v0 v1 v2 v3 v4 rec_ k0 k1 := by
  unfold zj50 zb50
  rfl
theorem vst154_0_0 {β : Type} (N : Nat) (zq40 : (a0 : List Int) → (a1 : Int) → (a2 : Int) → (k : Int → Option β) → Option β) (zq46 : Nat → List Int → Int → Int → Int → (Int → Option β) → Option β) (zq49 : (a0 : Int) → (k : ByteArray → Option β) → Option β) (zq55 : Nat → List Int → Int → Int → Int → (ByteArray → Option β) → Option β) (zq51 : (self : List Int → Int → Int → Int → (ByteArray → Option β) → Option β) → Nat → List Int → Int → Int → Int → Int → (ByteArray → Option β) → (List Int → Int → Int → Int → Option β) → Option β) (zq53 : (self : List Int → Int → Int → Int → (ByteArray → Option β) → Option β) → Nat → List Int → Int → Int → Int → Int → (ByteArray → Option β) → (Option β) → Option β) (G : Nat)  (v0 : List Int) (v1 : Int) (v2 : Int) (v3 : Int) (v4 : Int) (rec_ : St → Option β) (K : Exit → St → Option β) :
    ev lay (VE154 N zq40 zq46 zq49 zq55 zq51 zq53 G) (retMask Tryd.f154) (lp Tryd.f154 0).body (lp Tryd.f154 0).ex ((lp Tryd.f154 0).lv (retMask Tryd.f154)) (h154_0_0  v0 v1 v2 v3 v4) (nextR (fun s' => rec_ (s'.tidy ((lp Tryd.f154 0).lv (retMask Tryd.f154)))) K) = zb50 N zq46 zq49 (zq55 G)  v0 v1 v2 v3 v4 (fun v0 v1 v2 v3 v4 => rec_ (h154_0_0  v0 v1 v2 v3 v4)) (fun y0 => K .ret (x154_0_0_k0  y0)) (fun y0 y1 y2 y3 => K (.exit 0) (x154_0_0_k1  y0 y1 y2 y3)) := by kernel_rfl
theorem st154_0_0 {β : Type} (N : Nat) (G : Nat)  (v0 : List Int) (v1 : Int) (v2 : Int) (v3 : Int) (v4 : Int) (rec_ : St → Option β) (K : Exit → St → Option β) :
    ev lay (E154 N G) (retMask Tryd.f154) (lp Tryd.f154 0).body (lp Tryd.f154 0).ex ((lp Tryd.f154 0).lv (retMask Tryd.f154)) (h154_0_0  v0 v1 v2 v3 v4) (nextR (fun s' => rec_ (s'.tidy ((lp Tryd.f154 0).lv (retMask Tryd.f154)))) K) = zj50 N (zj55 N G)  v0 v1 v2 v3 v4 (fun v0 v1 v2 v3 v4 => rec_ (h154_0_0  v0 v1 v2 v3 v4)) (fun y0 => K .ret (x154_0_0_k0  y0)) (fun y0 y1 y2 y3 => K (.exit 0) (x154_0_0_k1  y0 y1 y2 y3)) := (vst154_0_0 N (zj40 N) (zj46 N) (zj49 N) (zj55 N) (zj51 N) (zj53 N) G v0 v1 v2 v3 v4 rec_ K).trans (zt50 N (zj55 N G)  v0 v1 v2 v3 v4 (fun v0 v1 v2 v3 v4 => rec_ (h154_0_0  v0 v1 v2 v3 v4)) (fun y0 => K .ret (x154_0_0_k0  y0)) (fun y0 y1 y2 y3 => K (.exit 0) (x154_0_0_k1  y0 y1 y2 y3))).symm
theorem ro154_0_0 {β : Type} (N : Nat) (G : Nat)  (K : Exit → St → Option β) : ∀ (F : Nat) (v0 : List Int) (v1 : Int) (v2 : Int) (v3 : Int) (v4 : Int), (lp Tryd.f154 0).rounds lay (E154 N G) (retMask Tryd.f154) F (h154_0_0  v0 v1 v2 v3 v4) K = zj51 N (zj55 N G)  F v0 v1 v2 v3 v4 (fun y0 => K .ret (x154_0_0_k0  y0)) (fun y0 y1 y2 y3 => K (.exit 0) (x154_0_0_k1  y0 y1 y2 y3)) := by
  intro F
  induction F with
  | zero => intros; rfl
  | succ F ih =>
    intros
    rw [rounds_next]
    refine (st154_0_0 N G  _ _ _ _ _ (fun s => (lp Tryd.f154 0).rounds lay (E154 N G) (retMask Tryd.f154) F s K) K).trans ?_
    simp only [ih]
    rfl
theorem lk154_0 {β : Type} (N : Nat) (G : Nat) : lookL (E154 (β := β) N G).loops (lp Tryd.f154 0).id = LS154_0 N G := by kernel_rfl
theorem rk154_0 {β : Type} (N : Nat) (G : Nat) : RoundsOK lay (E154 (β := β) N G) (retMask Tryd.f154) (lp Tryd.f154 0) := by
  intro s K r h
  rw [lk154_0] at h
  unfold LS154_0 VLS154_0 at h
  cases hb : shpSt (h154_0_0 [] 0 0 0 0) s with
  | true =>
    rw [hb, cond_true] at h
    exact ⟨N, by rw [← shpSt_ref hb, fl154_0_0 s]; exact (ro154_0_0 N G  K N (rInts (rowV (oneA (vT (nx tund s.tmps 0))))) (intS (oneA (vT (nx tund s.tmps 1)))) (intS (oneA (vT (nx tund s.tmps 2)))) (intS (oneA (vT (nx tund s.tmps 3)))) (intS (oneA (vT (nx tund s.tmps 10))))).trans h⟩
  | false =>
  rw [hb, cond_false] at h
  clear hb
  cases h
def zb52 {β : Type} (N : Nat) (zq46 : Nat → List Int → Int → Int → Int → (Int → Option β) → Option β) (zq49 : (a0 : Int) → (k : ByteArray → Option β) → Option β) (self : List Int → Int → Int → Int → (ByteArray → Option β) → Option β)  (v0 : List Int) (v1 : Int) (v2 : Int) (v3 : Int) (v4 : Int) (rec_ : List Int → Int → Int → Int → Int → Option β) (k0 : ByteArray → Option β) (k1 : Option β) : Option β :=
(cond ((decide (v4 < v2)))
((cond (((bits .and .i64 v4 v2) == v4))
(zq46 N v0 v1 v4 ((w64 (v3 - 1))) fun r15 =>
(cond ((decide (r15 < v3)))
(zq46 N v0 v1 ((w64 (v2 - v4))) ((w64 (v3 - 1))) fun r16 =>
(cond ((decide (r16 < v3)))
(zq49 v4 fun r17 =>
(gd ((decide (((strOf [66])).size + r17.size ≤ 9223372036854775807)))
(zq46 N v0 v1 ((w64 (v2 - v4))) ((w64 (v3 - 1))) fun r18 =>
self v0 v1 ((w64 (v2 - v4))) r18 fun r19 =>
(gd ((decide ((((strOf [66]) ++ r17)).size + r19.size ≤ 9223372036854775807)))
(zq46 N v0 v1 v4 ((w64 (v3 - 1))) fun r20 =>
self v0 v1 v4 r20 fun r21 =>
(gd ((decide (((((strOf [66]) ++ r17) ++ r19)).size + r21.size ≤ 9223372036854775807)))
(k0 (((((strOf [66]) ++ r17) ++ r19) ++ r21)))))))))
(rec_ v0 v1 v2 v3 ((w64 (v4 + 1))))))
(rec_ v0 v1 v2 v3 ((w64 (v4 + 1))))))
(rec_ v0 v1 v2 v3 ((w64 (v4 + 1))))))
(k1 ))
theorem zt52 {β : Type} (N : Nat) (self : List Int → Int → Int → Int → (ByteArray → Option β) → Option β)  (v0 : List Int) (v1 : Int) (v2 : Int) (v3 : Int) (v4 : Int) (rec_ : List Int → Int → Int → Int → Int → Option β) (k0 : ByteArray → Option β) (k1 : Option β) : zj52 N self v0 v1 v2 v3 v4 rec_ k0 k1 = zb52 N (zj46 N) (zj49 N) self v0 v1 v2 v3 v4 rec_ k0 k1 := by
  unfold zj52 zb52
  rfl
theorem vst154_1_0 {β : Type} (N : Nat) (zq40 : (a0 : List Int) → (a1 : Int) → (a2 : Int) → (k : Int → Option β) → Option β) (zq46 : Nat → List Int → Int → Int → Int → (Int → Option β) → Option β) (zq49 : (a0 : Int) → (k : ByteArray → Option β) → Option β) (zq55 : Nat → List Int → Int → Int → Int → (ByteArray → Option β) → Option β) (zq51 : (self : List Int → Int → Int → Int → (ByteArray → Option β) → Option β) → Nat → List Int → Int → Int → Int → Int → (ByteArray → Option β) → (List Int → Int → Int → Int → Option β) → Option β) (zq53 : (self : List Int → Int → Int → Int → (ByteArray → Option β) → Option β) → Nat → List Int → Int → Int → Int → Int → (ByteArray → Option β) → (Option β) → Option β) (G : Nat)  (v0 : List Int) (v1 : Int) (v2 : Int) (v3 : Int) (v4 : Int) (rec_ : St → Option β) (K : Exit → St → Option β) :
    ev lay (VE154 N zq40 zq46 zq49 zq55 zq51 zq53 G) (retMask Tryd.f154) (lp Tryd.f154 1).body (lp Tryd.f154 1).ex ((lp Tryd.f154 1).lv (retMask Tryd.f154)) (h154_1_0  v0 v1 v2 v3 v4) (nextR (fun s' => rec_ (s'.tidy ((lp Tryd.f154 1).lv (retMask Tryd.f154)))) K) = zb52 N zq46 zq49 (zq55 G)  v0 v1 v2 v3 v4 (fun v0 v1 v2 v3 v4 => rec_ (h154_1_0  v0 v1 v2 v3 v4)) (fun y0 => K .ret (x154_1_0_k0  y0)) (K (.exit 2) (x154_1_0_k1  )) := by kernel_rfl
theorem st154_1_0 {β : Type} (N : Nat) (G : Nat)  (v0 : List Int) (v1 : Int) (v2 : Int) (v3 : Int) (v4 : Int) (rec_ : St → Option β) (K : Exit → St → Option β) :
    ev lay (E154 N G) (retMask Tryd.f154) (lp Tryd.f154 1).body (lp Tryd.f154 1).ex ((lp Tryd.f154 1).lv (retMask Tryd.f154)) (h154_1_0  v0 v1 v2 v3 v4) (nextR (fun s' => rec_ (s'.tidy ((lp Tryd.f154 1).lv (retMask Tryd.f154)))) K) = zj52 N (zj55 N G)  v0 v1 v2 v3 v4 (fun v0 v1 v2 v3 v4 => rec_ (h154_1_0  v0 v1 v2 v3 v4)) (fun y0 => K .ret (x154_1_0_k0  y0)) (K (.exit 2) (x154_1_0_k1  )) := (vst154_1_0 N (zj40 N) (zj46 N) (zj49 N) (zj55 N) (zj51 N) (zj53 N) G v0 v1 v2 v3 v4 rec_ K).trans (zt52 N (zj55 N G)  v0 v1 v2 v3 v4 (fun v0 v1 v2 v3 v4 => rec_ (h154_1_0  v0 v1 v2 v3 v4)) (fun y0 => K .ret (x154_1_0_k0  y0)) (K (.exit 2) (x154_1_0_k1  ))).symm
theorem ro154_1_0 {β : Type} (N : Nat) (G : Nat)  (K : Exit → St → Option β) : ∀ (F : Nat) (v0 : List Int) (v1 : Int) (v2 : Int) (v3 : Int) (v4 : Int), (lp Tryd.f154 1).rounds lay (E154 N G) (retMask Tryd.f154) F (h154_1_0  v0 v1 v2 v3 v4) K = zj53 N (zj55 N G)  F v0 v1 v2 v3 v4 (fun y0 => K .ret (x154_1_0_k0  y0)) (K (.exit 2) (x154_1_0_k1  )) := by
  intro F
  induction F with
  | zero => intros; rfl
  | succ F ih =>
    intros
    rw [rounds_next]
    refine (st154_1_0 N G  _ _ _ _ _ (fun s => (lp Tryd.f154 1).rounds lay (E154 N G) (retMask Tryd.f154) F s K) K).trans ?_
    simp only [ih]
    rfl
theorem lk154_2 {β : Type} (N : Nat) (G : Nat) : lookL (E154 (β := β) N G).loops (lp Tryd.f154 1).id = LS154_2 N G := by kernel_rfl
theorem rk154_2 {β : Type} (N : Nat) (G : Nat) : RoundsOK lay (E154 (β := β) N G) (retMask Tryd.f154) (lp Tryd.f154 1) := by
  intro s K r h
  rw [lk154_2] at h
  unfold LS154_2 VLS154_2 at h
  cases hb : shpSt (h154_1_0 [] 0 0 0 0) s with
  | true =>
    rw [hb, cond_true] at h
    exact ⟨N, by rw [← shpSt_ref hb, fl154_1_0 s]; exact (ro154_1_0 N G  K N (rInts (rowV (oneA (vT (nx tund s.tmps 0))))) (intS (oneA (vT (nx tund s.tmps 1)))) (intS (oneA (vT (nx tund s.tmps 2)))) (intS (oneA (vT (nx tund s.tmps 3)))) (intS (oneA (vT (nx tund s.tmps 11))))).trans h⟩
  | false =>
  rw [hb, cond_false] at h
  clear hb
  cases h
def zb54 {β : Type} (N : Nat) (zq40 : (a0 : List Int) → (a1 : Int) → (a2 : Int) → (k : Int → Option β) → Option β) (zq51 : (self : List Int → Int → Int → Int → (ByteArray → Option β) → Option β) → Nat → List Int → Int → Int → Int → Int → (ByteArray → Option β) → (List Int → Int → Int → Int → Option β) → Option β) (zq53 : (self : List Int → Int → Int → Int → (ByteArray → Option β) → Option β) → Nat → List Int → Int → Int → Int → Int → (ByteArray → Option β) → (Option β) → Option β) (self : List Int → Int → Int → Int → (ByteArray → Option β) → Option β) (a0 : List Int) (a1 : Int) (a2 : Int) (a3 : Int) (k : ByteArray → Option β) : Option β :=
zq40 a0 a1 a2 fun r5 =>
(cond ((decide (r5 < 2)))
((gd ((decide (0 ≤ (w64 (r5 + 1)))))
((gd ((decide ((w64 (r5 + 1)) ≤ (((strOf [48, 49])).size : Int))))
((gd ((decide (0 ≤ r5)))
((gd ((decide (r5 ≤ (w64 (r5 + 1)))))
(k ((((strOf [48, 49])).extract (Int.toNat r5) (Int.toNat (w64 (r5 + 1))))))))))))))
(zq51 self  N a0 a1 a2 a3 1 (fun e13_0 =>
k e13_0) (fun e14_0 e14_1 e14_2 e14_3 =>
zq53 self  N e14_0 e14_1 e14_2 e14_3 1 (fun e22_0 =>
k e22_0) (k ByteArray.empty))))
theorem zt54 {β : Type} (N : Nat) (self : List Int → Int → Int → Int → (ByteArray → Option β) → Option β) (a0 : List Int) (a1 : Int) (a2 : Int) (a3 : Int) (k : ByteArray → Option β) : zj54 N self a0 a1 a2 a3 k = zb54 N (zj40 N) (zj51 N) (zj53 N) self a0 a1 a2 a3 k := by
  unfold zj54 zb54
  rfl
theorem ve154_0 {β : Type} (N : Nat) (zq40 : (a0 : List Int) → (a1 : Int) → (a2 : Int) → (k : Int → Option β) → Option β) (zq46 : Nat → List Int → Int → Int → Int → (Int → Option β) → Option β) (zq49 : (a0 : Int) → (k : ByteArray → Option β) → Option β) (zq55 : Nat → List Int → Int → Int → Int → (ByteArray → Option β) → Option β) (zq51 : (self : List Int → Int → Int → Int → (ByteArray → Option β) → Option β) → Nat → List Int → Int → Int → Int → Int → (ByteArray → Option β) → (List Int → Int → Int → Int → Option β) → Option β) (zq53 : (self : List Int → Int → Int → Int → (ByteArray → Option β) → Option β) → Nat → List Int → Int → Int → Int → Int → (ByteArray → Option β) → (Option β) → Option β) (G : Nat)  (a0 : List Int) (a1 : Int) (a2 : Int) (a3 : Int) (K : TV → Option β) : evFn lay (VE154 N zq40 zq46 zq49 zq55 zq51 zq53 G) Tryd.f154 [.v (.one (.sl 3 (.ints .i64 a0))), .v (.one (.int .i64 a1)), .v (.one (.int .i64 a2)), .v (.one (.int .i64 a3))] K = zb54 N zq40 zq51 zq53 (zq55 G) a0 a1 a2 a3 (fun z4 => K (.v (.one (.str z4)))) := by kernel_rfl
theorem e154_0 {β : Type} (N : Nat) (G : Nat)  (a0 : List Int) (a1 : Int) (a2 : Int) (a3 : Int) (K : TV → Option β) : evFn lay (E154 N G) Tryd.f154 [.v (.one (.sl 3 (.ints .i64 a0))), .v (.one (.int .i64 a1)), .v (.one (.int .i64 a2)), .v (.one (.int .i64 a3))] K = zj55 N (G + 1) a0 a1 a2 a3 (fun z4 => K (.v (.one (.str z4)))) := (ve154_0 N (zj40 N) (zj46 N) (zj49 N) (zj55 N) (zj51 N) (zj53 N) G a0 a1 a2 a3 K).trans (zt54 N (zj55 N G) a0 a1 a2 a3 (fun z4 => K (.v (.one (.str z4))))).symm
theorem z154 {β : Type} (N : Nat) : ∀ args K r, SF154 (β := β) N 0 args K = some r → (none : Option β) = some r := by
  intro args K r h
  unfold SF154 VSF154 at h
  split at h <;> exact h
theorem of154 {β : Type} (N : Nat) : ∀ G, SpecOK (β := β) inv Tryd.prog 154 (SF154 N G) := by
  intro G
  induction G with
  | zero => exact s_zero Tryd.func154 (by kernel_rfl) (z154 N)
  | succ G ih =>
    refine spec_of lay_ok mixed (E := E154 N G) (specs_loops (specs_cons (o203 N) (specs_cons (o155 N) (specs_cons (o204 N) (specs_cons ih specs_nil))))) muts_nil gs_nil Tryd.func154 (by kernel_rfl) 2 (by kernel_rfl) ⟨⟨trivial, rk154_0 N G⟩, rk154_2 N G⟩ fun args K r h => ?_
    unfold SF154 VSF154 at h
    split at h
    · exact (e154_0 N G _ _ _ _ _).trans h
    · cases h
theorem o154 {β : Type} (N : Nat) : SpecOK (β := β) inv Tryd.prog 154 (S154 N) := of154 N N
def VS96 {β : Type} (N : Nat) (zq57 : (a0 : Int) → (a1 : Int) → (a2 : Int) → (k : ByteArray → Bool → Option β) → Option β) : Rv.Spec β := fun args K => match args with
  | [.v (.agg [.int .i64 a0, .int .i64 a1]), .v (.one (.int .i64 a2))] => zq57 a0 a1 a2 (fun z3 z4 => K (.tup [.one (.str z3), .one (.bool z4)]))
  | _ => none
def S96 {β : Type} (N : Nat) : Rv.Spec β := VS96 N (zj57 N)
def VE96 {β : Type} (N : Nat) (zq35 : (a0 : Int) → (a1 : Int) → (a2 : Int) → (k : Bool → Option β) → Option β) (zq7 : (a0 : Int) → (a1 : Int) → (a2 : Int) → (k : List Int → Bool → Option β) → Option β) (zq48 : (a0 : Int) → (a1 : Int) → (a2 : Int) → (k : Int → Option β) → Option β) (zq55 : Nat → List Int → Int → Int → Int → (ByteArray → Option β) → Option β) : Env β := ⟨[(95, VS95 N zq35), (91, VS91 N zq7), (97, VS97 N zq48), (154, VS154 N zq55)], [], [], [], ⟨[], [], [153]⟩⟩
def E96 {β : Type} (N : Nat) : Env β := VE96 N (zj35 N) (zj7 N) (zj48 N) (zj55 N)
def zb57 {β : Type} (N : Nat) (zq35 : (a0 : Int) → (a1 : Int) → (a2 : Int) → (k : Bool → Option β) → Option β) (zq7 : (a0 : Int) → (a1 : Int) → (a2 : Int) → (k : List Int → Bool → Option β) → Option β) (zq48 : (a0 : Int) → (a1 : Int) → (a2 : Int) → (k : Int → Option β) → Option β) (zq55 : Nat → List Int → Int → Int → Int → (ByteArray → Option β) → Option β) (a0 : Int) (a1 : Int) (a2 : Int) (k : ByteArray → Bool → Option β) : Option β :=
zq35 a0 a1 a2 fun r5 =>
(cond (!r5)
(k ByteArray.empty false)
(zq7 a0 a1 a2 fun r6 r7 =>
(gd ((decide (0 ≤ (r6.length : Int))))
((gd ((decide (0 ≤ (w64 (a0 - a2)))))
((gd ((decide (0 ≤ (shlI .u64 1 (w64 (a0 - a2))))))
(zq48 a0 a1 a2 fun r8 =>
zq55 N r6 ((w64 ((shlI .i64 1 (r6.length : Int)) - 1))) ((w64 ((shlI .i64 1 (shlI .u64 1 (w64 (a0 - a2)))) - 1))) r8 fun r9 =>
k r9 true))))))))
theorem zt57 {β : Type} (N : Nat) (a0 : Int) (a1 : Int) (a2 : Int) (k : ByteArray → Bool → Option β) : zj57 N a0 a1 a2 k = zb57 N (zj35 N) (zj7 N) (zj48 N) (zj55 N) a0 a1 a2 k := by
  unfold zj57 zb57
  rfl
theorem ve96_0 {β : Type} (N : Nat) (zq35 : (a0 : Int) → (a1 : Int) → (a2 : Int) → (k : Bool → Option β) → Option β) (zq7 : (a0 : Int) → (a1 : Int) → (a2 : Int) → (k : List Int → Bool → Option β) → Option β) (zq48 : (a0 : Int) → (a1 : Int) → (a2 : Int) → (k : Int → Option β) → Option β) (zq55 : Nat → List Int → Int → Int → Int → (ByteArray → Option β) → Option β)  (a0 : Int) (a1 : Int) (a2 : Int) (K : TV → Option β) : evFn lay (VE96 N zq35 zq7 zq48 zq55) Tryd.f96 [.v (.agg [.int .i64 a0, .int .i64 a1]), .v (.one (.int .i64 a2))] K = zb57 N zq35 zq7 zq48 zq55 a0 a1 a2 (fun z3 z4 => K (.tup [.one (.str z3), .one (.bool z4)])) := by kernel_rfl
theorem e96_0 {β : Type} (N : Nat)  (a0 : Int) (a1 : Int) (a2 : Int) (K : TV → Option β) : evFn lay (E96 N) Tryd.f96 [.v (.agg [.int .i64 a0, .int .i64 a1]), .v (.one (.int .i64 a2))] K = zj57 N a0 a1 a2 (fun z3 z4 => K (.tup [.one (.str z3), .one (.bool z4)])) := (ve96_0 N (zj35 N) (zj7 N) (zj48 N) (zj55 N) a0 a1 a2 K).trans (zt57 N a0 a1 a2 (fun z3 z4 => K (.tup [.one (.str z3), .one (.bool z4)]))).symm
theorem o96 {β : Type} (N : Nat) : SpecOK (β := β) inv Tryd.prog 96 (S96 N) := by
  refine spec_of lay_ok mixed (E := E96 N) (specs_loops (specs_cons (o95 N) (specs_cons (o91 N) (specs_cons (o97 N) (specs_cons (o154 N) specs_nil))))) muts_nil gs_nil Tryd.func96 (by kernel_rfl) 0 (by kernel_rfl) trivial fun args K r h => ?_
  unfold S96 VS96 at h
  split at h
  · exact (e96_0 N _ _ _ _).trans h
  · cases h
def VS29 {β : Type} (N : Nat) (zq58 : (a0 : Int) → (a1 : Int) → (a2 : Int) → (k : ByteArray → Option β) → Option β) : Rv.Spec β := fun args K => match args with
  | [.v (.agg [.int .i64 a0, .int .i64 a1]), .v (.one (.int .i64 a2))] => zq58 a0 a1 a2 (fun z3 => K (.v (.one (.str z3))))
  | _ => none
def S29 {β : Type} (N : Nat) : Rv.Spec β := VS29 N (zj58 N)
def VE29 {β : Type} (N : Nat) (zq7 : (a0 : Int) → (a1 : Int) → (a2 : Int) → (k : List Int → Bool → Option β) → Option β) (zq18 : (a0 : Int) → (a1 : Int) → (a2 : Int) → (a3 : Int) → (k : List Int → Bool → Option β) → Option β) (zq24 : (a0 : List Int) → (k : ByteArray → Option β) → Option β) (zq29 : (a0 : List Int) → (k : Int → Option β) → Option β) (zq21 : (a0 : Int) → (k : ByteArray → Option β) → Option β) (zq34 : (a0 : List Int) → (k : Int → Option β) → Option β) (zq35 : (a0 : Int) → (a1 : Int) → (a2 : Int) → (k : Bool → Option β) → Option β) (zq57 : (a0 : Int) → (a1 : Int) → (a2 : Int) → (k : ByteArray → Bool → Option β) → Option β) (zq48 : (a0 : Int) → (a1 : Int) → (a2 : Int) → (k : Int → Option β) → Option β) : Env β := ⟨[(91, VS91 N zq7), (92, VS92 N zq18), (52, VS52 N zq24), (93, VS93 N zq29), (55, VS55 N zq21), (94, VS94 N zq34), (95, VS95 N zq35), (96, VS96 N zq57), (97, VS97 N zq48)], [], [], [], ⟨[92], [], [153]⟩⟩
def E29 {β : Type} (N : Nat) : Env β := VE29 N (zj7 N) (zj18 N) (zj24 N) (zj29 N) (zj21 N) (zj34 N) (zj35 N) (zj57 N) (zj48 N)
def zb58 {β : Type} (N : Nat) (zq7 : (a0 : Int) → (a1 : Int) → (a2 : Int) → (k : List Int → Bool → Option β) → Option β) (zq18 : (a0 : Int) → (a1 : Int) → (a2 : Int) → (a3 : Int) → (k : List Int → Bool → Option β) → Option β) (zq24 : (a0 : List Int) → (k : ByteArray → Option β) → Option β) (zq29 : (a0 : List Int) → (k : Int → Option β) → Option β) (zq21 : (a0 : Int) → (k : ByteArray → Option β) → Option β) (zq34 : (a0 : List Int) → (k : Int → Option β) → Option β) (zq35 : (a0 : Int) → (a1 : Int) → (a2 : Int) → (k : Bool → Option β) → Option β) (zq57 : (a0 : Int) → (a1 : Int) → (a2 : Int) → (k : ByteArray → Bool → Option β) → Option β) (zq48 : (a0 : Int) → (a1 : Int) → (a2 : Int) → (k : Int → Option β) → Option β) (a0 : Int) (a1 : Int) (a2 : Int) (k : ByteArray → Option β) : Option β :=
zq7 a0 a1 a2 fun r4 r5 =>
(cond (!r5)
(k ByteArray.empty)
((cond ((decide (a0 > 4)))
(k ByteArray.empty)
(zq18 a0 a1 a2 0 fun r6 r7 =>
zq18 a0 a1 a2 1 fun r8 r9 =>
zq24 r4 fun r10 =>
(gd ((decide (((strOf [115, 112, 108, 105, 116, 32, 114, 111, 119, 115, 32])).size + r10.size ≤ 9223372036854775807)))
((gd ((decide ((((strOf [115, 112, 108, 105, 116, 32, 114, 111, 119, 115, 32]) ++ r10)).size + ((strOf [32, 114, 97, 110, 107, 32])).size ≤ 9223372036854775807)))
(zq29 r4 fun r11 =>
zq21 r11 fun r12 =>
(gd ((decide (((((strOf [115, 112, 108, 105, 116, 32, 114, 111, 119, 115, 32]) ++ r10) ++ (strOf [32, 114, 97, 110, 107, 32]))).size + r12.size ≤ 9223372036854775807)))
((gd ((decide ((((((strOf [115, 112, 108, 105, 116, 32, 114, 111, 119, 115, 32]) ++ r10) ++ (strOf [32, 114, 97, 110, 107, 32])) ++ r12)).size + ((strOf [32, 100, 105, 102, 102, 101, 114, 101, 110, 116, 32])).size ≤ 9223372036854775807)))
(zq34 r4 fun r13 =>
zq21 r13 fun r14 =>
(gd ((decide (((((((strOf [115, 112, 108, 105, 116, 32, 114, 111, 119, 115, 32]) ++ r10) ++ (strOf [32, 114, 97, 110, 107, 32])) ++ r12) ++ (strOf [32, 100, 105, 102, 102, 101, 114, 101, 110, 116, 32]))).size + r14.size ≤ 9223372036854775807)))
((gd ((decide ((((((((strOf [115, 112, 108, 105, 116, 32, 114, 111, 119, 115, 32]) ++ r10) ++ (strOf [32, 114, 97, 110, 107, 32])) ++ r12) ++ (strOf [32, 100, 105, 102, 102, 101, 114, 101, 110, 116, 32])) ++ r14)).size + ((strOf [32, 102, 111, 111, 108, 105, 110, 103, 32])).size ≤ 9223372036854775807)))
(zq21 ((r6.length : Int)) fun r15 =>
(gd ((decide (((((((((strOf [115, 112, 108, 105, 116, 32, 114, 111, 119, 115, 32]) ++ r10) ++ (strOf [32, 114, 97, 110, 107, 32])) ++ r12) ++ (strOf [32, 100, 105, 102, 102, 101, 114, 101, 110, 116, 32])) ++ r14) ++ (strOf [32, 102, 111, 111, 108, 105, 110, 103, 32]))).size + r15.size ≤ 9223372036854775807)))
((gd ((decide ((((((((((strOf [115, 112, 108, 105, 116, 32, 114, 111, 119, 115, 32]) ++ r10) ++ (strOf [32, 114, 97, 110, 107, 32])) ++ r12) ++ (strOf [32, 100, 105, 102, 102, 101, 114, 101, 110, 116, 32])) ++ r14) ++ (strOf [32, 102, 111, 111, 108, 105, 110, 103, 32])) ++ r15)).size + ((strOf [44])).size ≤ 9223372036854775807)))
(zq21 ((r8.length : Int)) fun r16 =>
(gd ((decide (((((((((((strOf [115, 112, 108, 105, 116, 32, 114, 111, 119, 115, 32]) ++ r10) ++ (strOf [32, 114, 97, 110, 107, 32])) ++ r12) ++ (strOf [32, 100, 105, 102, 102, 101, 114, 101, 110, 116, 32])) ++ r14) ++ (strOf [32, 102, 111, 111, 108, 105, 110, 103, 32])) ++ r15) ++ (strOf [44]))).size + r16.size ≤ 9223372036854775807)))
(zq35 a0 a1 a2 fun r17 =>
(cond r17
(zq57 a0 a1 a2 fun r18 r19 =>
(gd ((decide ((((((((((((strOf [115, 112, 108, 105, 116, 32, 114, 111, 119, 115, 32]) ++ r10) ++ (strOf [32, 114, 97, 110, 107, 32])) ++ r12) ++ (strOf [32, 100, 105, 102, 102, 101, 114, 101, 110, 116, 32])) ++ r14) ++ (strOf [32, 102, 111, 111, 108, 105, 110, 103, 32])) ++ r15) ++ (strOf [44])) ++ r16)).size + ((strOf [32, 98, 105, 116, 115, 32])).size ≤ 9223372036854775807)))
(zq48 a0 a1 a2 fun r20 =>
zq21 r20 fun r21 =>
(gd ((decide (((((((((((((strOf [115, 112, 108, 105, 116, 32, 114, 111, 119, 115, 32]) ++ r10) ++ (strOf [32, 114, 97, 110, 107, 32])) ++ r12) ++ (strOf [32, 100, 105, 102, 102, 101, 114, 101, 110, 116, 32])) ++ r14) ++ (strOf [32, 102, 111, 111, 108, 105, 110, 103, 32])) ++ r15) ++ (strOf [44])) ++ r16) ++ (strOf [32, 98, 105, 116, 115, 32]))).size + r21.size ≤ 9223372036854775807)))
((gd ((decide ((((((((((((((strOf [115, 112, 108, 105, 116, 32, 114, 111, 119, 115, 32]) ++ r10) ++ (strOf [32, 114, 97, 110, 107, 32])) ++ r12) ++ (strOf [32, 100, 105, 102, 102, 101, 114, 101, 110, 116, 32])) ++ r14) ++ (strOf [32, 102, 111, 111, 108, 105, 110, 103, 32])) ++ r15) ++ (strOf [44])) ++ r16) ++ (strOf [32, 98, 105, 116, 115, 32])) ++ r21)).size + ((strOf [32, 112, 114, 111, 116, 111, 99, 111, 108, 32])).size ≤ 9223372036854775807)))
((gd ((decide (((((((((((((((strOf [115, 112, 108, 105, 116, 32, 114, 111, 119, 115, 32]) ++ r10) ++ (strOf [32, 114, 97, 110, 107, 32])) ++ r12) ++ (strOf [32, 100, 105, 102, 102, 101, 114, 101, 110, 116, 32])) ++ r14) ++ (strOf [32, 102, 111, 111, 108, 105, 110, 103, 32])) ++ r15) ++ (strOf [44])) ++ r16) ++ (strOf [32, 98, 105, 116, 115, 32])) ++ r21) ++ (strOf [32, 112, 114, 111, 116, 111, 99, 111, 108, 32]))).size + r18.size ≤ 9223372036854775807)))
(k (((((((((((((((strOf [115, 112, 108, 105, 116, 32, 114, 111, 119, 115, 32]) ++ r10) ++ (strOf [32, 114, 97, 110, 107, 32])) ++ r12) ++ (strOf [32, 100, 105, 102, 102, 101, 114, 101, 110, 116, 32])) ++ r14) ++ (strOf [32, 102, 111, 111, 108, 105, 110, 103, 32])) ++ r15) ++ (strOf [44])) ++ r16) ++ (strOf [32, 98, 105, 116, 115, 32])) ++ r21) ++ (strOf [32, 112, 114, 111, 116, 111, 99, 111, 108, 32])) ++ r18)))))))))))
(k (((((((((((strOf [115, 112, 108, 105, 116, 32, 114, 111, 119, 115, 32]) ++ r10) ++ (strOf [32, 114, 97, 110, 107, 32])) ++ r12) ++ (strOf [32, 100, 105, 102, 102, 101, 114, 101, 110, 116, 32])) ++ r14) ++ (strOf [32, 102, 111, 111, 108, 105, 110, 103, 32])) ++ r15) ++ (strOf [44])) ++ r16))))))))))))))))))))))))))
theorem zt58 {β : Type} (N : Nat) (a0 : Int) (a1 : Int) (a2 : Int) (k : ByteArray → Option β) : zj58 N a0 a1 a2 k = zb58 N (zj7 N) (zj18 N) (zj24 N) (zj29 N) (zj21 N) (zj34 N) (zj35 N) (zj57 N) (zj48 N) a0 a1 a2 k := by
  unfold zj58 zb58
  rfl
theorem ve29_0 {β : Type} (N : Nat) (zq7 : (a0 : Int) → (a1 : Int) → (a2 : Int) → (k : List Int → Bool → Option β) → Option β) (zq18 : (a0 : Int) → (a1 : Int) → (a2 : Int) → (a3 : Int) → (k : List Int → Bool → Option β) → Option β) (zq24 : (a0 : List Int) → (k : ByteArray → Option β) → Option β) (zq29 : (a0 : List Int) → (k : Int → Option β) → Option β) (zq21 : (a0 : Int) → (k : ByteArray → Option β) → Option β) (zq34 : (a0 : List Int) → (k : Int → Option β) → Option β) (zq35 : (a0 : Int) → (a1 : Int) → (a2 : Int) → (k : Bool → Option β) → Option β) (zq57 : (a0 : Int) → (a1 : Int) → (a2 : Int) → (k : ByteArray → Bool → Option β) → Option β) (zq48 : (a0 : Int) → (a1 : Int) → (a2 : Int) → (k : Int → Option β) → Option β)  (a0 : Int) (a1 : Int) (a2 : Int) (K : TV → Option β) : evFn lay (VE29 N zq7 zq18 zq24 zq29 zq21 zq34 zq35 zq57 zq48) Tryd.f29 [.v (.agg [.int .i64 a0, .int .i64 a1]), .v (.one (.int .i64 a2))] K = zb58 N zq7 zq18 zq24 zq29 zq21 zq34 zq35 zq57 zq48 a0 a1 a2 (fun z3 => K (.v (.one (.str z3)))) := by kernel_rfl
theorem e29_0 {β : Type} (N : Nat)  (a0 : Int) (a1 : Int) (a2 : Int) (K : TV → Option β) : evFn lay (E29 N) Tryd.f29 [.v (.agg [.int .i64 a0, .int .i64 a1]), .v (.one (.int .i64 a2))] K = zj58 N a0 a1 a2 (fun z3 => K (.v (.one (.str z3)))) := (ve29_0 N (zj7 N) (zj18 N) (zj24 N) (zj29 N) (zj21 N) (zj34 N) (zj35 N) (zj57 N) (zj48 N) a0 a1 a2 K).trans (zt58 N a0 a1 a2 (fun z3 => K (.v (.one (.str z3))))).symm
theorem o29 {β : Type} (N : Nat) : SpecOK (β := β) inv Tryd.prog 29 (S29 N) := by
  refine spec_of lay_ok mixed (E := E29 N) (specs_loops (specs_cons (o91 N) (specs_cons (o92 N) (specs_cons (o52 N) (specs_cons (o93 N) (specs_cons (o55 N) (specs_cons (o94 N) (specs_cons (o95 N) (specs_cons (o96 N) (specs_cons (o97 N) specs_nil)))))))))) muts_nil gs_nil Tryd.func29 (by kernel_rfl) 0 (by kernel_rfl) trivial fun args K r h => ?_
  unfold S29 VS29 at h
  split at h
  · exact (e29_0 N _ _ _ _).trans h
  · cases h
def VS46 {β : Type} (N : Nat) (zq59 : (a0 : Int) → (k : Bool → Option β) → Option β) : Rv.Spec β := fun args K => match args with
  | [.v (.one (.int .i64 a0))] => zq59 a0 (fun z1 => K (.v (.one (.bool z1))))
  | _ => none
def S46 {β : Type} (N : Nat) : Rv.Spec β := VS46 N (zj59 N)
def VE46 {β : Type} (N : Nat) : Env β := ⟨[], [], [], [], ⟨[], [], [153]⟩⟩
def E46 {β : Type} (N : Nat) : Env β := VE46 N
def zb59 {β : Type} (N : Nat) (a0 : Int) (k : Bool → Option β) : Option β :=
(cond ((decide (a0 ≥ 0)))
(k ((decide (a0 ≤ 5))))
(k false))
theorem zt59 {β : Type} (N : Nat) (a0 : Int) (k : Bool → Option β) : zj59 N a0 k = zb59 N a0 k := by
  unfold zj59 zb59
  rfl
theorem ve46_0 {β : Type} (N : Nat)  (a0 : Int) (K : TV → Option β) : evFn lay (VE46 N) Tryd.f46 [.v (.one (.int .i64 a0))] K = zb59 N a0 (fun z1 => K (.v (.one (.bool z1)))) := by kernel_rfl
theorem e46_0 {β : Type} (N : Nat)  (a0 : Int) (K : TV → Option β) : evFn lay (E46 N) Tryd.f46 [.v (.one (.int .i64 a0))] K = zj59 N a0 (fun z1 => K (.v (.one (.bool z1)))) := (ve46_0 N a0 K).trans (zt59 N a0 (fun z1 => K (.v (.one (.bool z1))))).symm
theorem o46 {β : Type} (N : Nat) : SpecOK (β := β) inv Tryd.prog 46 (S46 N) := by
  refine spec_of lay_ok mixed (E := E46 N) (specs_loops specs_nil) muts_nil gs_nil Tryd.func46 (by kernel_rfl) 0 (by kernel_rfl) trivial fun args K r h => ?_
  unfold S46 VS46 at h
  split at h
  · exact (e46_0 N _ _).trans h
  · cases h
def VS125 {β : Type} (N : Nat) (zq60 : (a0 : Int) → (a1 : Int) → (k : Int → Option β) → Option β) : Rv.Spec β := fun args K => match args with
  | [.v (.agg [.int .i64 a0, .int .i64 a1])] => zq60 a0 a1 (fun z2 => K (.v (.one (.int .i64 z2))))
  | _ => none
def S125 {β : Type} (N : Nat) : Rv.Spec β := VS125 N (zj60 N)
def VE125 {β : Type} (N : Nat) : Env β := ⟨[], [], [], [], ⟨[], [], [153]⟩⟩
def E125 {β : Type} (N : Nat) : Env β := VE125 N
def zb60 {β : Type} (N : Nat) (a0 : Int) (a1 : Int) (k : Int → Option β) : Option β :=
(gd ((decide (0 ≤ a0)))
(k ((shlI .i64 1 a0))))
theorem zt60 {β : Type} (N : Nat) (a0 : Int) (a1 : Int) (k : Int → Option β) : zj60 N a0 a1 k = zb60 N a0 a1 k := by
  unfold zj60 zb60
  rfl
theorem ve125_0 {β : Type} (N : Nat)  (a0 : Int) (a1 : Int) (K : TV → Option β) : evFn lay (VE125 N) Tryd.f125 [.v (.agg [.int .i64 a0, .int .i64 a1])] K = zb60 N a0 a1 (fun z2 => K (.v (.one (.int .i64 z2)))) := by kernel_rfl
theorem e125_0 {β : Type} (N : Nat)  (a0 : Int) (a1 : Int) (K : TV → Option β) : evFn lay (E125 N) Tryd.f125 [.v (.agg [.int .i64 a0, .int .i64 a1])] K = zj60 N a0 a1 (fun z2 => K (.v (.one (.int .i64 z2)))) := (ve125_0 N a0 a1 K).trans (zt60 N a0 a1 (fun z2 => K (.v (.one (.int .i64 z2))))).symm
theorem o125 {β : Type} (N : Nat) : SpecOK (β := β) inv Tryd.prog 125 (S125 N) := by
  refine spec_of lay_ok mixed (E := E125 N) (specs_loops specs_nil) muts_nil gs_nil Tryd.func125 (by kernel_rfl) 0 (by kernel_rfl) trivial fun args K r h => ?_
  unfold S125 VS125 at h
  split at h
  · exact (e125_0 N _ _ _).trans h
  · cases h
def VS59 {β : Type} (N : Nat) (zq61 : (a0 : Int) → (a1 : Int) → (k : Bool → Option β) → Option β) : Rv.Spec β := fun args K => match args with
  | [.v (.agg [.int .i64 a0, .int .i64 a1])] => zq61 a0 a1 (fun z2 => K (.v (.one (.bool z2))))
  | _ => none
def S59 {β : Type} (N : Nat) : Rv.Spec β := VS59 N (zj61 N)
def VE59 {β : Type} (N : Nat) (zq59 : (a0 : Int) → (k : Bool → Option β) → Option β) (zq60 : (a0 : Int) → (a1 : Int) → (k : Int → Option β) → Option β) : Env β := ⟨[(46, VS46 N zq59), (125, VS125 N zq60)], [], [], [], ⟨[], [], [153]⟩⟩
def E59 {β : Type} (N : Nat) : Env β := VE59 N (zj59 N) (zj60 N)
def zb61 {β : Type} (N : Nat) (zq59 : (a0 : Int) → (k : Bool → Option β) → Option β) (zq60 : (a0 : Int) → (a1 : Int) → (k : Int → Option β) → Option β) (a0 : Int) (a1 : Int) (k : Bool → Option β) : Option β :=
zq59 a0 fun r3 =>
(cond r3
((cond ((decide (a1 ≥ 0)))
(zq60 a0 a1 fun r4 =>
(gd ((decide (0 ≤ r4)))
(k (((shrI .i64 a1 r4) == 0)))))
(k false)))
(k false))
theorem zt61 {β : Type} (N : Nat) (a0 : Int) (a1 : Int) (k : Bool → Option β) : zj61 N a0 a1 k = zb61 N (zj59 N) (zj60 N) a0 a1 k := by
  unfold zj61 zb61
  rfl
theorem ve59_0 {β : Type} (N : Nat) (zq59 : (a0 : Int) → (k : Bool → Option β) → Option β) (zq60 : (a0 : Int) → (a1 : Int) → (k : Int → Option β) → Option β)  (a0 : Int) (a1 : Int) (K : TV → Option β) : evFn lay (VE59 N zq59 zq60) Tryd.f59 [.v (.agg [.int .i64 a0, .int .i64 a1])] K = zb61 N zq59 zq60 a0 a1 (fun z2 => K (.v (.one (.bool z2)))) := by kernel_rfl
theorem e59_0 {β : Type} (N : Nat)  (a0 : Int) (a1 : Int) (K : TV → Option β) : evFn lay (E59 N) Tryd.f59 [.v (.agg [.int .i64 a0, .int .i64 a1])] K = zj61 N a0 a1 (fun z2 => K (.v (.one (.bool z2)))) := (ve59_0 N (zj59 N) (zj60 N) a0 a1 K).trans (zt61 N a0 a1 (fun z2 => K (.v (.one (.bool z2))))).symm
theorem o59 {β : Type} (N : Nat) : SpecOK (β := β) inv Tryd.prog 59 (S59 N) := by
  refine spec_of lay_ok mixed (E := E59 N) (specs_loops (specs_cons (o46 N) (specs_cons (o125 N) specs_nil))) muts_nil gs_nil Tryd.func59 (by kernel_rfl) 0 (by kernel_rfl) trivial fun args K r h => ?_
  unfold S59 VS59 at h
  split at h
  · exact (e59_0 N _ _ _).trans h
  · cases h
def VS98 {β : Type} (N : Nat) (zq62 : (a0 : Int) → (a1 : Int) → (a2 : Int) → (k : Bool → Option β) → Option β) : Rv.Spec β := fun args K => match args with
  | [.v (.agg [.int .i64 a0, .int .i64 a1]), .v (.one (.int .i64 a2))] => zq62 a0 a1 a2 (fun z3 => K (.v (.one (.bool z3))))
  | _ => none
def S98 {β : Type} (N : Nat) : Rv.Spec β := VS98 N (zj62 N)
def VE98 {β : Type} (N : Nat) (zq61 : (a0 : Int) → (a1 : Int) → (k : Bool → Option β) → Option β) : Env β := ⟨[(59, VS59 N zq61)], [], [], [], ⟨[], [], [153]⟩⟩
def E98 {β : Type} (N : Nat) : Env β := VE98 N (zj61 N)
def zb62 {β : Type} (N : Nat) (zq61 : (a0 : Int) → (a1 : Int) → (k : Bool → Option β) → Option β) (a0 : Int) (a1 : Int) (a2 : Int) (k : Bool → Option β) : Option β :=
zq61 a0 a1 fun r4 =>
(cond r4
((cond ((decide (a2 ≥ 0)))
(k ((decide (a2 ≤ a0))))
(k false)))
(k false))
theorem zt62 {β : Type} (N : Nat) (a0 : Int) (a1 : Int) (a2 : Int) (k : Bool → Option β) : zj62 N a0 a1 a2 k = zb62 N (zj61 N) a0 a1 a2 k := by
  unfold zj62 zb62
  rfl
theorem ve98_0 {β : Type} (N : Nat) (zq61 : (a0 : Int) → (a1 : Int) → (k : Bool → Option β) → Option β)  (a0 : Int) (a1 : Int) (a2 : Int) (K : TV → Option β) : evFn lay (VE98 N zq61) Tryd.f98 [.v (.agg [.int .i64 a0, .int .i64 a1]), .v (.one (.int .i64 a2))] K = zb62 N zq61 a0 a1 a2 (fun z3 => K (.v (.one (.bool z3)))) := by kernel_rfl
theorem e98_0 {β : Type} (N : Nat)  (a0 : Int) (a1 : Int) (a2 : Int) (K : TV → Option β) : evFn lay (E98 N) Tryd.f98 [.v (.agg [.int .i64 a0, .int .i64 a1]), .v (.one (.int .i64 a2))] K = zj62 N a0 a1 a2 (fun z3 => K (.v (.one (.bool z3)))) := (ve98_0 N (zj61 N) a0 a1 a2 K).trans (zt62 N a0 a1 a2 (fun z3 => K (.v (.one (.bool z3))))).symm
theorem o98 {β : Type} (N : Nat) : SpecOK (β := β) inv Tryd.prog 98 (S98 N) := by
  refine spec_of lay_ok mixed (E := E98 N) (specs_loops (specs_cons (o59 N) specs_nil)) muts_nil gs_nil Tryd.func98 (by kernel_rfl) 0 (by kernel_rfl) trivial fun args K r h => ?_
  unfold S98 VS98 at h
  split at h
  · exact (e98_0 N _ _ _ _).trans h
  · cases h
def VS128 {β : Type} (N : Nat) (zq63 : (a0 : Int) → (a1 : Int) → (a2 : Int) → (k : Int → Option β) → Option β) : Rv.Spec β := fun args K => match args with
  | [.v (.agg [.int .i64 a0, .int .i64 a1]), .v (.one (.int .i64 a2))] => zq63 a0 a1 a2 (fun z3 => K (.v (.one (.int .i64 z3))))
  | _ => none
def S128 {β : Type} (N : Nat) : Rv.Spec β := VS128 N (zj63 N)
def VE128 {β : Type} (N : Nat) : Env β := ⟨[], [], [], [], ⟨[], [], [153]⟩⟩
def E128 {β : Type} (N : Nat) : Env β := VE128 N
def zb63 {β : Type} (N : Nat) (a0 : Int) (a1 : Int) (a2 : Int) (k : Int → Option β) : Option β :=
(gd ((decide (0 ≤ a2)))
(k ((bits .and .i64 (shrI .i64 a1 a2) 1))))
theorem zt63 {β : Type} (N : Nat) (a0 : Int) (a1 : Int) (a2 : Int) (k : Int → Option β) : zj63 N a0 a1 a2 k = zb63 N a0 a1 a2 k := by
  unfold zj63 zb63
  rfl
theorem ve128_0 {β : Type} (N : Nat)  (a0 : Int) (a1 : Int) (a2 : Int) (K : TV → Option β) : evFn lay (VE128 N) Tryd.f128 [.v (.agg [.int .i64 a0, .int .i64 a1]), .v (.one (.int .i64 a2))] K = zb63 N a0 a1 a2 (fun z3 => K (.v (.one (.int .i64 z3)))) := by kernel_rfl
theorem e128_0 {β : Type} (N : Nat)  (a0 : Int) (a1 : Int) (a2 : Int) (K : TV → Option β) : evFn lay (E128 N) Tryd.f128 [.v (.agg [.int .i64 a0, .int .i64 a1]), .v (.one (.int .i64 a2))] K = zj63 N a0 a1 a2 (fun z3 => K (.v (.one (.int .i64 z3)))) := (ve128_0 N a0 a1 a2 K).trans (zt63 N a0 a1 a2 (fun z3 => K (.v (.one (.int .i64 z3))))).symm
theorem o128 {β : Type} (N : Nat) : SpecOK (β := β) inv Tryd.prog 128 (S128 N) := by
  refine spec_of lay_ok mixed (E := E128 N) (specs_loops specs_nil) muts_nil gs_nil Tryd.func128 (by kernel_rfl) 0 (by kernel_rfl) trivial fun args K r h => ?_
  unfold S128 VS128 at h
  split at h
  · exact (e128_0 N _ _ _ _).trans h
  · cases h
end Go.Proofs.YtfdggelojmofmaaDoor
