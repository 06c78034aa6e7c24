/- The functions that the claims reach answer as their texts do. -/
import Derived.Test.YtemihnclhcobnaaGreatDoorE1
namespace Go.Proofs.YtemihnclhcobnaaGreatDoor
open Go.Rv
set_option maxRecDepth 100000
set_option maxHeartbeats 2000000
set_option linter.unusedVariables false
def VS61 {β : Type} (N : Nat) (zq36 : (a0 : Int) → (a1 : List (Int × Int)) → (k : Int → Int → Bool → Option β) → Option β) : Rv.Spec β := fun args K => match args with
  | [.v (.one (.int .i64 a0)), .v (.one (.sl 93 (.pairs a1)))] => zq36 a0 a1 (fun z2 z3 z4 => K (.tup [.agg [.int .i64 z2, .int .i64 z3], .one (.bool z4)]))
  | _ => none
def S61 {β : Type} (N : Nat) : Rv.Spec β := VS61 N (zj36 N)
def h61_0_0  (v0 : Int) (v1 : List (Int × Int)) (v2 : Int) (v3 : Int) (v4 : Int) (v5 : Int) : St := ⟨.v (.one (.int .i64 v0)) :: .v (.one (.sl 93 (.pairs v1))) :: tund :: tund :: .v (.one (.ptr 0 0)) :: tund :: .v (.one (.int .i64 v2)) :: .v (.one (.int .i64 v3)) :: tund :: tund :: tund :: tund :: tund :: tund :: tund :: tund :: tund :: tund :: tund :: tund :: tund :: tund :: tund :: tund :: tund :: tund :: tund :: tund :: tund :: tund :: tund :: tund :: tund :: tund :: tund :: tund :: tund :: [], [.cells 25 [.int .i64 v4, .int .i64 v5]]⟩
def x61_0_0_k0  (y0 : Bool) (y1 : Int) (y2 : Int) : St := ⟨tund :: tund :: tund :: tund :: .v (.one (.ptr 0 0)) :: .v (.one (.bool y0)) :: tund :: tund :: tund :: tund :: tund :: tund :: tund :: tund :: tund :: tund :: tund :: tund :: tund :: tund :: tund :: tund :: tund :: tund :: tund :: tund :: tund :: tund :: tund :: tund :: tund :: tund :: tund :: tund :: tund :: tund :: tund :: [], [.cells 25 [.int .i64 y1, .int .i64 y2]]⟩
def x61_0_0_k1  (y0 : Int) (y1 : Int) (y2 : Int) (y3 : Int) : St := ⟨.v (.one (.int .i64 y0)) :: tund :: tund :: tund :: .v (.one (.ptr 0 0)) :: tund :: .v (.one (.int .i64 y1)) :: tund :: tund :: tund :: tund :: tund :: tund :: tund :: tund :: tund :: tund :: tund :: tund :: tund :: tund :: tund :: tund :: tund :: tund :: tund :: tund :: tund :: tund :: tund :: tund :: tund :: tund :: tund :: tund :: tund :: tund :: [], [.cells 25 [.int .i64 y2, .int .i64 y3]]⟩
theorem fl61_0_0 (s : St) : refSt (h61_0_0 0 [] 0 0 0 0) s = h61_0_0 (intS (oneA (vT (nx tund s.tmps 0)))) (rPairs (rowV (oneA (vT (nx tund s.tmps 1))))) (intS (oneA (vT (nx tund s.tmps 6)))) (intS (oneA (vT (nx tund s.tmps 7)))) (intS (nx .und (cellsB (nx .dead s.blks 0)) 0)) (intS (nx .und (cellsB (nx .dead s.blks 0)) 1)) := by kernel_rfl
def VLS61_0 {β : Type} (N : Nat) (zq35 : Nat → Int → List (Int × Int) → Int → Int → Int → Int → (Bool → Int → Int → Option β) → (Int → Int → Int → Int → Option β) → Option β) : LSpec β := fun s K => cond (shpSt (h61_0_0 0 [] 0 0 0 0) s) ((fun (v0 : Int) (v1 : List (Int × Int)) (v2 : Int) (v3 : Int) (v4 : Int) (v5 : Int) => zq35  N v0 v1 v2 v3 v4 v5 (fun y0 y1 y2 => K .ret (x61_0_0_k0  y0 y1 y2)) (fun y0 y1 y2 y3 => K (.exit 0) (x61_0_0_k1  y0 y1 y2 y3))) (intS (oneA (vT (nx tund s.tmps 0)))) (rPairs (rowV (oneA (vT (nx tund s.tmps 1))))) (intS (oneA (vT (nx tund s.tmps 6)))) (intS (oneA (vT (nx tund s.tmps 7)))) (intS (nx .und (cellsB (nx .dead s.blks 0)) 0)) (intS (nx .und (cellsB (nx .dead s.blks 0)) 1))) (none)
def LS61_0 {β : Type} (N : Nat) : LSpec β := VLS61_0 N (zj35 N)
def VE61 {β : Type} (N : Nat) (zq6 : (a0 : Int) → (a1 : Int) → (a2 : Int) → (k : Bool → Option β) → Option β) (zq33 : (a0 : Int) → (a1 : Int) → (a2 : Int) → (k : Int → Option β) → Option β) (zq0 : (a0 : Int) → (a1 : Int) → (a2 : Int) → (k : Bool → Option β) → Option β) (zq35 : Nat → Int → List (Int × Int) → Int → Int → Int → Int → (Bool → Int → Int → Option β) → (Int → Int → Int → Int → Option β) → Option β) : Env β := ⟨[(123, VS123 N zq6), (124, VS124 N zq33), (57, VS57 N zq0)], [], [(0, VLS61_0 N zq35)], [], ⟨[], [], [], []⟩⟩
def E61 {β : Type} (N : Nat) : Env β := VE61 N (zj6 N) (zj33 N) (zj0 N) (zj35 N)
def zb34 {β : Type} (N : Nat) (zq6 : (a0 : Int) → (a1 : Int) → (a2 : Int) → (k : Bool → Option β) → Option β) (zq33 : (a0 : Int) → (a1 : Int) → (a2 : Int) → (k : Int → Option β) → Option β)  (v0 : Int) (v1 : List (Int × Int)) (v2 : Int) (v3 : Int) (v4 : Int) (v5 : Int) (rec_ : Int → List (Int × Int) → Int → Int → Int → Int → Option β) (k0 : Bool → Int → Int → Option β) (k1 : Int → Int → Int → Int → Option β) : Option β :=
(cond ((decide (v3 < (v1.length : Int))))
((gd ((decide (0 ≤ v3)))
((gd ((decide (v3 < (v1.length : Int))))
(zq6 v0 ((rd (0, 0) v1 v3).1) ((rd (0, 0) v1 v3).2) fun r5 =>
(cond (!r5)
(k0 false 0 0)
((gd ((decide (0 ≤ v3)))
((gd ((decide (v3 < (v1.length : Int))))
(zq33 v0 ((rd (0, 0) v1 v3).1) ((rd (0, 0) v1 v3).2) fun r6 =>
rec_ v0 v1 ((bits .or .i64 v2 r6)) ((w64 (v3 + 1))) v4 v5)))))))))))
(k1 v0 v2 v4 v5))
theorem zt34 {β : Type} (N : Nat)  (v0 : Int) (v1 : List (Int × Int)) (v2 : Int) (v3 : Int) (v4 : Int) (v5 : Int) (rec_ : Int → List (Int × Int) → Int → Int → Int → Int → Option β) (k0 : Bool → Int → Int → Option β) (k1 : Int → Int → Int → Int → Option β) : zj34 N v0 v1 v2 v3 v4 v5 rec_ k0 k1 = zb34 N (zj6 N) (zj33 N) v0 v1 v2 v3 v4 v5 rec_ k0 k1 := by
  unfold zj34 zb34
  rfl
theorem vst61_0_0 {β : Type} (N : Nat) (zq6 : (a0 : Int) → (a1 : Int) → (a2 : Int) → (k : Bool → Option β) → Option β) (zq33 : (a0 : Int) → (a1 : Int) → (a2 : Int) → (k : Int → Option β) → Option β) (zq0 : (a0 : Int) → (a1 : Int) → (a2 : Int) → (k : Bool → Option β) → Option β) (zq35 : Nat → Int → List (Int × Int) → Int → Int → Int → Int → (Bool → Int → Int → Option β) → (Int → Int → Int → Int → Option β) → Option β)  (v0 : Int) (v1 : List (Int × Int)) (v2 : Int) (v3 : Int) (v4 : Int) (v5 : Int) (rec_ : St → Option β) (K : Exit → St → Option β) :
    ev lay (VE61 N zq6 zq33 zq0 zq35) (retMask Tryz.f61) (lp Tryz.f61 0).body (lp Tryz.f61 0).ex ((lp Tryz.f61 0).lv (retMask Tryz.f61)) (h61_0_0  v0 v1 v2 v3 v4 v5) (nextR (fun s' => rec_ (s'.tidy ((lp Tryz.f61 0).lv (retMask Tryz.f61)))) K) = zb34 N zq6 zq33  v0 v1 v2 v3 v4 v5 (fun v0 v1 v2 v3 v4 v5 => rec_ (h61_0_0  v0 v1 v2 v3 v4 v5)) (fun y0 y1 y2 => K .ret (x61_0_0_k0  y0 y1 y2)) (fun y0 y1 y2 y3 => K (.exit 0) (x61_0_0_k1  y0 y1 y2 y3)) := by kernel_rfl
theorem st61_0_0 {β : Type} (N : Nat)  (v0 : Int) (v1 : List (Int × Int)) (v2 : Int) (v3 : Int) (v4 : Int) (v5 : Int) (rec_ : St → Option β) (K : Exit → St → Option β) :
    ev lay (E61 N) (retMask Tryz.f61) (lp Tryz.f61 0).body (lp Tryz.f61 0).ex ((lp Tryz.f61 0).lv (retMask Tryz.f61)) (h61_0_0  v0 v1 v2 v3 v4 v5) (nextR (fun s' => rec_ (s'.tidy ((lp Tryz.f61 0).lv (retMask Tryz.f61)))) K) = zj34 N  v0 v1 v2 v3 v4 v5 (fun v0 v1 v2 v3 v4 v5 => rec_ (h61_0_0  v0 v1 v2 v3 v4 v5)) (fun y0 y1 y2 => K .ret (x61_0_0_k0  y0 y1 y2)) (fun y0 y1 y2 y3 => K (.exit 0) (x61_0_0_k1  y0 y1 y2 y3)) := (vst61_0_0 N (zj6 N) (zj33 N) (zj0 N) (zj35 N) v0 v1 v2 v3 v4 v5 rec_ K).trans (zt34 N  v0 v1 v2 v3 v4 v5 (fun v0 v1 v2 v3 v4 v5 => rec_ (h61_0_0  v0 v1 v2 v3 v4 v5)) (fun y0 y1 y2 => K .ret (x61_0_0_k0  y0 y1 y2)) (fun y0 y1 y2 y3 => K (.exit 0) (x61_0_0_k1  y0 y1 y2 y3))).symm
theorem ro61_0_0 {β : Type} (N : Nat)  (K : Exit → St → Option β) : ∀ (F : Nat) (v0 : Int) (v1 : List (Int × Int)) (v2 : Int) (v3 : Int) (v4 : Int) (v5 : Int), (lp Tryz.f61 0).rounds lay (E61 N) (retMask Tryz.f61) F (h61_0_0  v0 v1 v2 v3 v4 v5) K = zj35 N  F v0 v1 v2 v3 v4 v5 (fun y0 y1 y2 => K .ret (x61_0_0_k0  y0 y1 y2)) (fun y0 y1 y2 y3 => K (.exit 0) (x61_0_0_k1  y0 y1 y2 y3)) := by
  intro F
  induction F with
  | zero => intros; rfl
  | succ F ih =>
    intros
    rw [rounds_next]
    refine (st61_0_0 N  _ _ _ _ _ _ (fun s => (lp Tryz.f61 0).rounds lay (E61 N) (retMask Tryz.f61) F s K) K).trans ?_
    simp only [ih]
    rfl
theorem lk61_0 {β : Type} (N : Nat) : lookL (E61 (β := β) N).loops (lp Tryz.f61 0).id = LS61_0 N := by kernel_rfl
theorem rk61_0 {β : Type} (N : Nat) : RoundsOK lay (E61 (β := β) N) (retMask Tryz.f61) (lp Tryz.f61 0) := by
  intro s K r h
  rw [lk61_0] at h
  unfold LS61_0 VLS61_0 at h
  cases hb : shpSt (h61_0_0 0 [] 0 0 0 0) s with
  | true =>
    rw [hb, cond_true] at h
    exact ⟨N, by rw [← shpSt_ref hb, fl61_0_0 s]; exact (ro61_0_0 N  K N (intS (oneA (vT (nx tund s.tmps 0)))) (rPairs (rowV (oneA (vT (nx tund s.tmps 1))))) (intS (oneA (vT (nx tund s.tmps 6)))) (intS (oneA (vT (nx tund s.tmps 7)))) (intS (nx .und (cellsB (nx .dead s.blks 0)) 0)) (intS (nx .und (cellsB (nx .dead s.blks 0)) 1))).trans h⟩
  | false =>
  rw [hb, cond_false] at h
  clear hb
  cases h
def zb36 {β : Type} (N : Nat) (zq35 : Nat → Int → List (Int × Int) → Int → Int → Int → Int → (Bool → Int → Int → Option β) → (Int → Int → Int → Int → Option β) → Option β) (zq0 : (a0 : Int) → (a1 : Int) → (a2 : Int) → (k : Bool → Option β) → Option β) (a0 : Int) (a1 : List (Int × Int)) (k : Int → Int → Bool → Option β) : Option β :=
zq35  N a0 a1 0 0 0 0 (fun e7_0 e7_1 e7_2 =>
k e7_1 e7_2 e7_0) (fun e8_0 e8_1 e8_2 e8_3 =>
zq0 e8_0 0 5 fun r9 =>
(cond (!r9)
(k 0 0 false)
(k e8_0 e8_1 true)))
theorem zt36 {β : Type} (N : Nat) (a0 : Int) (a1 : List (Int × Int)) (k : Int → Int → Bool → Option β) : zj36 N a0 a1 k = zb36 N (zj35 N) (zj0 N) a0 a1 k := by
  unfold zj36 zb36
  rfl
theorem ve61_0 {β : Type} (N : Nat) (zq6 : (a0 : Int) → (a1 : Int) → (a2 : Int) → (k : Bool → Option β) → Option β) (zq33 : (a0 : Int) → (a1 : Int) → (a2 : Int) → (k : Int → Option β) → Option β) (zq0 : (a0 : Int) → (a1 : Int) → (a2 : Int) → (k : Bool → Option β) → Option β) (zq35 : Nat → Int → List (Int × Int) → Int → Int → Int → Int → (Bool → Int → Int → Option β) → (Int → Int → Int → Int → Option β) → Option β)  (a0 : Int) (a1 : List (Int × Int)) (K : TV → Option β) : evFn lay (VE61 N zq6 zq33 zq0 zq35) Tryz.f61 [.v (.one (.int .i64 a0)), .v (.one (.sl 93 (.pairs a1)))] K = zb36 N zq35 zq0 a0 a1 (fun z2 z3 z4 => K (.tup [.agg [.int .i64 z2, .int .i64 z3], .one (.bool z4)])) := by kernel_rfl
theorem e61_0 {β : Type} (N : Nat)  (a0 : Int) (a1 : List (Int × Int)) (K : TV → Option β) : evFn lay (E61 N) Tryz.f61 [.v (.one (.int .i64 a0)), .v (.one (.sl 93 (.pairs a1)))] K = zj36 N a0 a1 (fun z2 z3 z4 => K (.tup [.agg [.int .i64 z2, .int .i64 z3], .one (.bool z4)])) := (ve61_0 N (zj6 N) (zj33 N) (zj0 N) (zj35 N) a0 a1 K).trans (zt36 N a0 a1 (fun z2 z3 z4 => K (.tup [.agg [.int .i64 z2, .int .i64 z3], .one (.bool z4)]))).symm
theorem o61 {β : Type} (N : Nat) : SpecOK (β := β) inv Tryz.prog 61 (S61 N) := by
  refine spec_of lay_ok mixed (E := E61 N) (specs_loops (specs_cons (o123 N) (specs_cons (o124 N) (specs_cons (o57 N) specs_nil)))) muts_nil gs_nil Tryz.func61 (by kernel_rfl) 1 (by kernel_rfl) ⟨trivial, rk61_0 N⟩ fun args K r h => ?_
  unfold S61 VS61 at h
  split at h
  · exact (e61_0 N _ _ _).trans h
  · cases h
def VSF183 {β : Type} (N : Nat) (zq38 : Nat → ByteArray → Int → Int → (Int → Option β) → Option β) (G : Nat) : Rv.Spec β := fun args K => match args with
  | [.v (.one (.str a0)), .v (.one (.int .i64 a1)), .v (.one (.int .i64 a2))] => zq38 G a0 a1 a2 (fun z3 => K (.v (.one (.int .i64 z3))))
  | _ => none
def SF183 {β : Type} (N : Nat) (G : Nat) : Rv.Spec β := VSF183 N (zj38 N) G
def VS183 {β : Type} (N : Nat) (zq38 : Nat → ByteArray → Int → Int → (Int → Option β) → Option β) : Rv.Spec β := VSF183 N zq38 N
def S183 {β : Type} (N : Nat) : Rv.Spec β := SF183 N N
def VE183 {β : Type} (N : Nat) (zq0 : (a0 : Int) → (a1 : Int) → (a2 : Int) → (k : Bool → Option β) → Option β) (zq38 : Nat → ByteArray → Int → Int → (Int → Option β) → Option β) (G : Nat) : Env β := ⟨[(57, VS57 N zq0), (183, VSF183 N zq38 G)], [], [], [], ⟨[], [], [], []⟩⟩
def E183 {β : Type} (N : Nat) (G : Nat) : Env β := VE183 N (zj0 N) (zj38 N) G
def zb37 {β : Type} (N : Nat) (zq0 : (a0 : Int) → (a1 : Int) → (a2 : Int) → (k : Bool → Option β) → Option β) (self : ByteArray → Int → Int → (Int → Option β) → Option β) (a0 : ByteArray) (a1 : Int) (a2 : Int) (k : Int → Option β) : Option β :=
(cond ((decide (a1 ≥ (a0.size : Int))))
(k (-1))
((gd ((decide (0 ≤ a1)))
((gd ((decide (a1 < (a0.size : Int))))
((cond (((bt a0 a1) == 48))
(k ((w64 (a1 + 1))))
((gd ((decide (0 ≤ a1)))
((gd ((decide (a1 < (a0.size : Int))))
((cond (((bt a0 a1) == 49))
(k ((w64 (a1 + 1))))
((gd ((decide (0 ≤ a1)))
((gd ((decide (a1 < (a0.size : Int))))
(zq0 ((w64 ((w64 ((bt a0 a1))) - 97))) 0 4 fun r4 =>
(cond (!r4)
(k (-1))
((gd ((decide (0 ≤ (w64 ((w64 ((bt a0 a1))) - 97)))))
((cond (((bits .and .i64 (shrI .i64 a2 (w64 ((w64 ((bt a0 a1))) - 97))) 1) == 1))
(k (-1))
((gd ((decide (0 ≤ (w64 ((w64 ((bt a0 a1))) - 97)))))
(self a0 ((w64 (a1 + 1))) ((bits .or .i64 a2 (shlI .i64 1 (w64 ((w64 ((bt a0 a1))) - 97))))) fun r5 =>
(cond ((decide (r5 < 0)))
(k (-1))
((gd ((decide (0 ≤ (w64 ((w64 ((bt a0 a1))) - 97)))))
(self a0 r5 ((bits .or .i64 a2 (shlI .i64 1 (w64 ((w64 ((bt a0 a1))) - 97))))) fun r6 =>
k r6))))))))))))))))))))))))))))))
theorem zt37 {β : Type} (N : Nat) (self : ByteArray → Int → Int → (Int → Option β) → Option β) (a0 : ByteArray) (a1 : Int) (a2 : Int) (k : Int → Option β) : zj37 N self a0 a1 a2 k = zb37 N (zj0 N) self a0 a1 a2 k := by
  unfold zj37 zb37
  rfl
theorem ve183_0 {β : Type} (N : Nat) (zq0 : (a0 : Int) → (a1 : Int) → (a2 : Int) → (k : Bool → Option β) → Option β) (zq38 : Nat → ByteArray → Int → Int → (Int → Option β) → Option β) (G : Nat)  (a0 : ByteArray) (a1 : Int) (a2 : Int) (K : TV → Option β) : evFn lay (VE183 N zq0 zq38 G) Tryz.f183 [.v (.one (.str a0)), .v (.one (.int .i64 a1)), .v (.one (.int .i64 a2))] K = zb37 N zq0 (zq38 G) a0 a1 a2 (fun z3 => K (.v (.one (.int .i64 z3)))) := by kernel_rfl
theorem e183_0 {β : Type} (N : Nat) (G : Nat)  (a0 : ByteArray) (a1 : Int) (a2 : Int) (K : TV → Option β) : evFn lay (E183 N G) Tryz.f183 [.v (.one (.str a0)), .v (.one (.int .i64 a1)), .v (.one (.int .i64 a2))] K = zj38 N (G + 1) a0 a1 a2 (fun z3 => K (.v (.one (.int .i64 z3)))) := (ve183_0 N (zj0 N) (zj38 N) G a0 a1 a2 K).trans (zt37 N (zj38 N G) a0 a1 a2 (fun z3 => K (.v (.one (.int .i64 z3))))).symm
theorem z183 {β : Type} (N : Nat) : ∀ args K r, SF183 (β := β) N 0 args K = some r → (none : Option β) = some r := by
  intro args K r h
  unfold SF183 VSF183 at h
  split at h <;> exact h
theorem of183 {β : Type} (N : Nat) : ∀ G, SpecOK (β := β) inv Tryz.prog 183 (SF183 N G) := by
  intro G
  induction G with
  | zero => exact s_zero Tryz.func183 (by kernel_rfl) (z183 N)
  | succ G ih =>
    refine spec_of lay_ok mixed (E := E183 N G) (specs_loops (specs_cons (o57 N) (specs_cons ih specs_nil))) muts_nil gs_nil Tryz.func183 (by kernel_rfl) 0 (by kernel_rfl) trivial fun args K r h => ?_
    unfold SF183 VSF183 at h
    split at h
    · exact (e183_0 N G _ _ _ _).trans h
    · cases h
theorem o183 {β : Type} (N : Nat) : SpecOK (β := β) inv Tryz.prog 183 (S183 N) := of183 N N
def VS125 {β : Type} (N : Nat) (zq40 : (a0 : ByteArray) → (k : Bool → Option β) → Option β) : Rv.Spec β := fun args K => match args with
  | [.v (.one (.str a0))] => zq40 a0 (fun z1 => K (.v (.one (.bool z1))))
  | _ => none
def S125 {β : Type} (N : Nat) : Rv.Spec β := VS125 N (zj40 N)
def VE125 {β : Type} (N : Nat) (zq38 : Nat → ByteArray → Int → Int → (Int → Option β) → Option β) : Env β := ⟨[(183, VS183 N zq38)], [], [], [], ⟨[], [], [], []⟩⟩
def E125 {β : Type} (N : Nat) : Env β := VE125 N (zj38 N)
def zb40 {β : Type} (N : Nat) (zq38 : Nat → ByteArray → Int → Int → (Int → Option β) → Option β) (a0 : ByteArray) (k : Bool → Option β) : Option β :=
(cond ((decide ((a0.size : Int) ≤ 63)))
((cond ((decide ((a0.size : Int) > 0)))
(zq38 N a0 0 0 fun r2 =>
k ((r2 == (a0.size : Int))))
(k false)))
(k false))
theorem zt40 {β : Type} (N : Nat) (a0 : ByteArray) (k : Bool → Option β) : zj40 N a0 k = zb40 N (zj38 N) a0 k := by
  unfold zj40 zb40
  rfl
theorem ve125_0 {β : Type} (N : Nat) (zq38 : Nat → ByteArray → Int → Int → (Int → Option β) → Option β)  (a0 : ByteArray) (K : TV → Option β) : evFn lay (VE125 N zq38) Tryz.f125 [.v (.one (.str a0))] K = zb40 N zq38 a0 (fun z1 => K (.v (.one (.bool z1)))) := by kernel_rfl
theorem e125_0 {β : Type} (N : Nat)  (a0 : ByteArray) (K : TV → Option β) : evFn lay (E125 N) Tryz.f125 [.v (.one (.str a0))] K = zj40 N a0 (fun z1 => K (.v (.one (.bool z1)))) := (ve125_0 N (zj38 N) a0 K).trans (zt40 N a0 (fun z1 => K (.v (.one (.bool z1))))).symm
theorem o125 {β : Type} (N : Nat) : SpecOK (β := β) inv Tryz.prog 125 (S125 N) := by
  refine spec_of lay_ok mixed (E := E125 N) (specs_loops (specs_cons (o183 N) specs_nil)) muts_nil gs_nil Tryz.func125 (by kernel_rfl) 0 (by kernel_rfl) trivial fun args K r h => ?_
  unfold S125 VS125 at h
  split at h
  · exact (e125_0 N _ _).trans h
  · cases h
def VSF184 {β : Type} (N : Nat) (zq42 : Nat → ByteArray → Int → (Int → Option β) → Option β) (G : Nat) : Rv.Spec β := fun args K => match args with
  | [.v (.one (.str a0)), .v (.one (.int .i64 a1))] => zq42 G a0 a1 (fun z2 => K (.v (.one (.int .i64 z2))))
  | _ => none
def SF184 {β : Type} (N : Nat) (G : Nat) : Rv.Spec β := VSF184 N (zj42 N) G
def VS184 {β : Type} (N : Nat) (zq42 : Nat → ByteArray → Int → (Int → Option β) → Option β) : Rv.Spec β := VSF184 N zq42 N
def S184 {β : Type} (N : Nat) : Rv.Spec β := SF184 N N
def VE184 {β : Type} (N : Nat) (zq42 : Nat → ByteArray → Int → (Int → Option β) → Option β) (G : Nat) : Env β := ⟨[(184, VSF184 N zq42 G)], [], [], [], ⟨[], [], [], []⟩⟩
def E184 {β : Type} (N : Nat) (G : Nat) : Env β := VE184 N (zj42 N) G
def zb41 {β : Type} (N : Nat) (self : ByteArray → Int → (Int → Option β) → Option β) (a0 : ByteArray) (a1 : Int) (k : Int → Option β) : Option β :=
(gd ((decide (0 ≤ a1)))
((gd ((decide (a1 < (a0.size : Int))))
((cond (((bt a0 a1) == 48))
(k ((w64 (a1 + 1))))
((gd ((decide (0 ≤ a1)))
((gd ((decide (a1 < (a0.size : Int))))
((cond (((bt a0 a1) == 49))
(k ((w64 (a1 + 1))))
(self a0 ((w64 (a1 + 1))) fun r3 =>
self a0 r3 fun r4 =>
k r4))))))))))))
theorem zt41 {β : Type} (N : Nat) (self : ByteArray → Int → (Int → Option β) → Option β) (a0 : ByteArray) (a1 : Int) (k : Int → Option β) : zj41 N self a0 a1 k = zb41 N self a0 a1 k := by
  unfold zj41 zb41
  rfl
theorem ve184_0 {β : Type} (N : Nat) (zq42 : Nat → ByteArray → Int → (Int → Option β) → Option β) (G : Nat)  (a0 : ByteArray) (a1 : Int) (K : TV → Option β) : evFn lay (VE184 N zq42 G) Tryz.f184 [.v (.one (.str a0)), .v (.one (.int .i64 a1))] K = zb41 N (zq42 G) a0 a1 (fun z2 => K (.v (.one (.int .i64 z2)))) := by kernel_rfl
theorem e184_0 {β : Type} (N : Nat) (G : Nat)  (a0 : ByteArray) (a1 : Int) (K : TV → Option β) : evFn lay (E184 N G) Tryz.f184 [.v (.one (.str a0)), .v (.one (.int .i64 a1))] K = zj42 N (G + 1) a0 a1 (fun z2 => K (.v (.one (.int .i64 z2)))) := (ve184_0 N (zj42 N) G a0 a1 K).trans (zt41 N (zj42 N G) a0 a1 (fun z2 => K (.v (.one (.int .i64 z2))))).symm
theorem z184 {β : Type} (N : Nat) : ∀ args K r, SF184 (β := β) N 0 args K = some r → (none : Option β) = some r := by
  intro args K r h
  unfold SF184 VSF184 at h
  split at h <;> exact h
theorem of184 {β : Type} (N : Nat) : ∀ G, SpecOK (β := β) inv Tryz.prog 184 (SF184 N G) := by
  intro G
  induction G with
  | zero => exact s_zero Tryz.func184 (by kernel_rfl) (z184 N)
  | succ G ih =>
    refine spec_of lay_ok mixed (E := E184 N G) (specs_loops (specs_cons ih specs_nil)) muts_nil gs_nil Tryz.func184 (by kernel_rfl) 0 (by kernel_rfl) trivial fun args K r h => ?_
    unfold SF184 VSF184 at h
    split at h
    · exact (e184_0 N G _ _ _).trans h
    · cases h
theorem o184 {β : Type} (N : Nat) : SpecOK (β := β) inv Tryz.prog 184 (S184 N) := of184 N N
def VS126 {β : Type} (N : Nat) (zq46 : (a0 : ByteArray) → (a1 : Int) → (k : Int → Int → Option β) → Option β) : Rv.Spec β := fun args K => match args with
  | [.v (.one (.str a0)), .v (.one (.int .i64 a1))] => zq46 a0 a1 (fun z2 z3 => K (.tup [.one (.int .i64 z2), .one (.int .i64 z3)]))
  | _ => none
def S126 {β : Type} (N : Nat) : Rv.Spec β := VS126 N (zj46 N)
def h126_0_0  (v0 : ByteArray) (v1 : Int) (v2 : Int) (v3 : Int) : St := ⟨.v (.one (.str v0)) :: .v (.one (.int .i64 v1)) :: tund :: tund :: tund :: tund :: .v (.one (.int .i64 v2)) :: .v (.one (.int .i64 v3)) :: tund :: tund :: tund :: tund :: tund :: tund :: tund :: tund :: tund :: tund :: tund :: tund :: tund :: tund :: tund :: tund :: tund :: tund :: tund :: tund :: tund :: tund :: tund :: tund :: tund :: tund :: tund :: tund :: tund :: tund :: tund :: tund :: tund :: [], []⟩
def x126_0_0_k0  (y0 : ByteArray) (y1 : Int) (y2 : Int) : St := ⟨.v (.one (.str y0)) :: tund :: tund :: tund :: tund :: tund :: .v (.one (.int .i64 y1)) :: .v (.one (.int .i64 y2)) :: tund :: tund :: tund :: tund :: tund :: tund :: tund :: tund :: tund :: tund :: tund :: tund :: tund :: tund :: tund :: tund :: tund :: tund :: tund :: tund :: tund :: tund :: tund :: tund :: tund :: tund :: tund :: tund :: tund :: tund :: tund :: tund :: tund :: [], []⟩
theorem fl126_0_0 (s : St) : refSt (h126_0_0 ByteArray.empty 0 0 0) s = h126_0_0 (strS (oneA (vT (nx tund s.tmps 0)))) (intS (oneA (vT (nx tund s.tmps 1)))) (intS (oneA (vT (nx tund s.tmps 6)))) (intS (oneA (vT (nx tund s.tmps 7)))) := by kernel_rfl
def VLS126_0 {β : Type} (N : Nat) (zq45 : Nat → ByteArray → Int → Int → Int → (ByteArray → Int → Int → Option β) → Option β) : LSpec β := fun s K => cond (shpSt (h126_0_0 ByteArray.empty 0 0 0) s) ((fun (v0 : ByteArray) (v1 : Int) (v2 : Int) (v3 : Int) => zq45  N v0 v1 v2 v3 (fun y0 y1 y2 => K (.exit 0) (x126_0_0_k0  y0 y1 y2))) (strS (oneA (vT (nx tund s.tmps 0)))) (intS (oneA (vT (nx tund s.tmps 1)))) (intS (oneA (vT (nx tund s.tmps 6)))) (intS (oneA (vT (nx tund s.tmps 7))))) (none)
def LS126_0 {β : Type} (N : Nat) : LSpec β := VLS126_0 N (zj45 N)
def VE126 {β : Type} (N : Nat) (zq42 : Nat → ByteArray → Int → (Int → Option β) → Option β) (zq45 : Nat → ByteArray → Int → Int → Int → (ByteArray → Int → Int → Option β) → Option β) : Env β := ⟨[(184, VS184 N zq42)], [], [(0, VLS126_0 N zq45)], [], ⟨[], [], [], []⟩⟩
def E126 {β : Type} (N : Nat) : Env β := VE126 N (zj42 N) (zj45 N)
def zb44 {β : Type} (N : Nat) (zq42 : Nat → ByteArray → Int → (Int → Option β) → Option β)  (v0 : ByteArray) (v1 : Int) (v2 : Int) (v3 : Int) (rec_ : ByteArray → Int → Int → Int → Option β) (k0 : ByteArray → Int → Int → Option β) : Option β :=
(gd ((decide (0 ≤ v2)))
((gd ((decide (v2 < (v0.size : Int))))
((cond (((bt v0 v2) != 48))
((gd ((decide (0 ≤ v2)))
((gd ((decide (v2 < (v0.size : Int))))
((cond (((bt v0 v2) != 49))
((gd ((decide (0 ≤ v2)))
((gd ((decide (v2 < (v0.size : Int))))
((gd ((decide (0 ≤ (w8 ((bt v0 v2) - 97)))))
((cond (((bits .and .i64 (shrI .i64 v1 (w8 ((bt v0 v2) - 97))) 1) == 1))
(zq42 N v0 ((w64 (v2 + 1))) fun r4 =>
rec_ v0 v1 r4 ((w64 (v3 + 1))))
(rec_ v0 v1 ((w64 (v2 + 1))) ((w64 (v3 + 1))))))))))))
(k0 v0 v2 v3)))))))
(k0 v0 v2 v3))))))
theorem zt44 {β : Type} (N : Nat)  (v0 : ByteArray) (v1 : Int) (v2 : Int) (v3 : Int) (rec_ : ByteArray → Int → Int → Int → Option β) (k0 : ByteArray → Int → Int → Option β) : zj44 N v0 v1 v2 v3 rec_ k0 = zb44 N (zj42 N) v0 v1 v2 v3 rec_ k0 := by
  unfold zj44 zb44
  rfl
theorem vst126_0_0 {β : Type} (N : Nat) (zq42 : Nat → ByteArray → Int → (Int → Option β) → Option β) (zq45 : Nat → ByteArray → Int → Int → Int → (ByteArray → Int → Int → Option β) → Option β)  (v0 : ByteArray) (v1 : Int) (v2 : Int) (v3 : Int) (rec_ : St → Option β) (K : Exit → St → Option β) :
    ev lay (VE126 N zq42 zq45) (retMask Tryz.f126) (lp Tryz.f126 0).body (lp Tryz.f126 0).ex ((lp Tryz.f126 0).lv (retMask Tryz.f126)) (h126_0_0  v0 v1 v2 v3) (nextR (fun s' => rec_ (s'.tidy ((lp Tryz.f126 0).lv (retMask Tryz.f126)))) K) = zb44 N zq42  v0 v1 v2 v3 (fun v0 v1 v2 v3 => rec_ (h126_0_0  v0 v1 v2 v3)) (fun y0 y1 y2 => K (.exit 0) (x126_0_0_k0  y0 y1 y2)) := by kernel_rfl
theorem st126_0_0 {β : Type} (N : Nat)  (v0 : ByteArray) (v1 : Int) (v2 : Int) (v3 : Int) (rec_ : St → Option β) (K : Exit → St → Option β) :
    ev lay (E126 N) (retMask Tryz.f126) (lp Tryz.f126 0).body (lp Tryz.f126 0).ex ((lp Tryz.f126 0).lv (retMask Tryz.f126)) (h126_0_0  v0 v1 v2 v3) (nextR (fun s' => rec_ (s'.tidy ((lp Tryz.f126 0).lv (retMask Tryz.f126)))) K) = zj44 N  v0 v1 v2 v3 (fun v0 v1 v2 v3 => rec_ (h126_0_0  v0 v1 v2 v3)) (fun y0 y1 y2 => K (.exit 0) (x126_0_0_k0  y0 y1 y2)) := (vst126_0_0 N (zj42 N) (zj45 N) v0 v1 v2 v3 rec_ K).trans (zt44 N  v0 v1 v2 v3 (fun v0 v1 v2 v3 => rec_ (h126_0_0  v0 v1 v2 v3)) (fun y0 y1 y2 => K (.exit 0) (x126_0_0_k0  y0 y1 y2))).symm
theorem ro126_0_0 {β : Type} (N : Nat)  (K : Exit → St → Option β) : ∀ (F : Nat) (v0 : ByteArray) (v1 : Int) (v2 : Int) (v3 : Int), (lp Tryz.f126 0).rounds lay (E126 N) (retMask Tryz.f126) F (h126_0_0  v0 v1 v2 v3) K = zj45 N  F v0 v1 v2 v3 (fun y0 y1 y2 => K (.exit 0) (x126_0_0_k0  y0 y1 y2)) := by
  intro F
  induction F with
  | zero => intros; rfl
  | succ F ih =>
    intros
    rw [rounds_next]
    refine (st126_0_0 N  _ _ _ _ (fun s => (lp Tryz.f126 0).rounds lay (E126 N) (retMask Tryz.f126) F s K) K).trans ?_
    simp only [ih]
    rfl
theorem lk126_0 {β : Type} (N : Nat) : lookL (E126 (β := β) N).loops (lp Tryz.f126 0).id = LS126_0 N := by kernel_rfl
theorem rk126_0 {β : Type} (N : Nat) : RoundsOK lay (E126 (β := β) N) (retMask Tryz.f126) (lp Tryz.f126 0) := by
  intro s K r h
  rw [lk126_0] at h
  unfold LS126_0 VLS126_0 at h
  cases hb : shpSt (h126_0_0 ByteArray.empty 0 0 0) s with
  | true =>
    rw [hb, cond_true] at h
    exact ⟨N, by rw [← shpSt_ref hb, fl126_0_0 s]; exact (ro126_0_0 N  K N (strS (oneA (vT (nx tund s.tmps 0)))) (intS (oneA (vT (nx tund s.tmps 1)))) (intS (oneA (vT (nx tund s.tmps 6)))) (intS (oneA (vT (nx tund s.tmps 7))))).trans h⟩
  | false =>
  rw [hb, cond_false] at h
  clear hb
  cases h
def zb46 {β : Type} (N : Nat) (zq45 : Nat → ByteArray → Int → Int → Int → (ByteArray → Int → Int → Option β) → Option β) (a0 : ByteArray) (a1 : Int) (k : Int → Int → Option β) : Option β :=
zq45  N a0 a1 0 0 (fun e5_0 e5_1 e5_2 =>
(gd ((decide (0 ≤ e5_1)))
((gd ((decide (e5_1 < (e5_0.size : Int))))
(k ((w64 ((w8 ((bt e5_0 e5_1) - 48))))) e5_2)))))
theorem zt46 {β : Type} (N : Nat) (a0 : ByteArray) (a1 : Int) (k : Int → Int → Option β) : zj46 N a0 a1 k = zb46 N (zj45 N) a0 a1 k := by
  unfold zj46 zb46
  rfl
theorem ve126_0 {β : Type} (N : Nat) (zq42 : Nat → ByteArray → Int → (Int → Option β) → Option β) (zq45 : Nat → ByteArray → Int → Int → Int → (ByteArray → Int → Int → Option β) → Option β)  (a0 : ByteArray) (a1 : Int) (K : TV → Option β) : evFn lay (VE126 N zq42 zq45) Tryz.f126 [.v (.one (.str a0)), .v (.one (.int .i64 a1))] K = zb46 N zq45 a0 a1 (fun z2 z3 => K (.tup [.one (.int .i64 z2), .one (.int .i64 z3)])) := by kernel_rfl
theorem e126_0 {β : Type} (N : Nat)  (a0 : ByteArray) (a1 : Int) (K : TV → Option β) : evFn lay (E126 N) Tryz.f126 [.v (.one (.str a0)), .v (.one (.int .i64 a1))] K = zj46 N a0 a1 (fun z2 z3 => K (.tup [.one (.int .i64 z2), .one (.int .i64 z3)])) := (ve126_0 N (zj42 N) (zj45 N) a0 a1 K).trans (zt46 N a0 a1 (fun z2 z3 => K (.tup [.one (.int .i64 z2), .one (.int .i64 z3)]))).symm
theorem o126 {β : Type} (N : Nat) : SpecOK (β := β) inv Tryz.prog 126 (S126 N) := by
  refine spec_of lay_ok mixed (E := E126 N) (specs_loops (specs_cons (o184 N) specs_nil)) muts_nil gs_nil Tryz.func126 (by kernel_rfl) 1 (by kernel_rfl) ⟨trivial, rk126_0 N⟩ fun args K r h => ?_
  unfold S126 VS126 at h
  split at h
  · exact (e126_0 N _ _ _).trans h
  · cases h
def VS62 {β : Type} (N : Nat) (zq51 : (a0 : ByteArray) → (a1 : Int) → (k : Int → Int → Bool → Option β) → Option β) : Rv.Spec β := fun args K => match args with
  | [.v (.one (.str a0)), .v (.one (.int .i64 a1))] => zq51 a0 a1 (fun z2 z3 z4 => K (.tup [.agg [.int .i64 z2, .int .i64 z3], .one (.bool z4)]))
  | _ => none
def S62 {β : Type} (N : Nat) : Rv.Spec β := VS62 N (zj51 N)
def h62_0_0  (v0 : ByteArray) (v1 : Int) (v2 : Int) (v3 : Int) (v4 : Int) : St := ⟨.v (.one (.str v0)) :: .v (.one (.int .i64 v1)) :: tund :: tund :: .v (.one (.ptr 0 0)) :: tund :: .v (.one (.int .i64 v2)) :: tund :: tund :: tund :: tund :: tund :: tund :: tund :: tund :: tund :: tund :: tund :: tund :: tund :: tund :: tund :: tund :: tund :: tund :: tund :: tund :: tund :: tund :: tund :: tund :: tund :: tund :: tund :: tund :: tund :: tund :: tund :: tund :: tund :: tund :: tund :: tund :: tund :: tund :: tund :: tund :: tund :: tund :: tund :: tund :: tund :: tund :: tund :: tund :: tund :: tund :: tund :: tund :: tund :: [], [.cells 25 [.int .i64 v3, .int .i64 v4]]⟩
def x62_0_0_k0  (y0 : Bool) (y1 : Int) (y2 : Int) : St := ⟨tund :: tund :: tund :: tund :: .v (.one (.ptr 0 0)) :: .v (.one (.bool y0)) :: tund :: tund :: tund :: tund :: tund :: tund :: tund :: tund :: tund :: tund :: tund :: tund :: tund :: tund :: tund :: tund :: tund :: tund :: tund :: tund :: tund :: tund :: tund :: tund :: tund :: tund :: tund :: tund :: tund :: tund :: tund :: tund :: tund :: tund :: tund :: tund :: tund :: tund :: tund :: tund :: tund :: tund :: tund :: tund :: tund :: tund :: tund :: tund :: tund :: tund :: tund :: tund :: tund :: tund :: [], [.cells 25 [.int .i64 y1, .int .i64 y2]]⟩
def x62_0_0_k1  (y0 : ByteArray) (y1 : Int) (y2 : Int) (y3 : Int) : St := ⟨.v (.one (.str y0)) :: .v (.one (.int .i64 y1)) :: tund :: tund :: .v (.one (.ptr 0 0)) :: tund :: tund :: tund :: tund :: tund :: tund :: tund :: tund :: tund :: tund :: tund :: tund :: tund :: tund :: tund :: tund :: tund :: tund :: tund :: tund :: tund :: tund :: tund :: tund :: tund :: tund :: tund :: tund :: tund :: tund :: tund :: tund :: tund :: tund :: tund :: tund :: tund :: tund :: tund :: tund :: tund :: tund :: tund :: tund :: tund :: tund :: tund :: tund :: tund :: tund :: tund :: tund :: tund :: tund :: tund :: [], [.cells 25 [.int .i64 y2, .int .i64 y3]]⟩
def h62_1_0  (v0 : ByteArray) (v1 : Int) (v2 : Int) (v3 : Int) (v4 : Int) (v5 : Int) : St := ⟨.v (.one (.str v0)) :: .v (.one (.int .i64 v1)) :: tund :: tund :: .v (.one (.ptr 0 0)) :: tund :: tund :: .v (.one (.int .i64 v2)) :: .v (.one (.int .i64 v3)) :: tund :: tund :: tund :: tund :: tund :: tund :: tund :: tund :: tund :: tund :: tund :: tund :: tund :: tund :: tund :: tund :: tund :: tund :: tund :: tund :: tund :: tund :: tund :: tund :: tund :: tund :: tund :: tund :: tund :: tund :: tund :: tund :: tund :: tund :: tund :: tund :: tund :: tund :: tund :: tund :: tund :: tund :: tund :: tund :: tund :: tund :: tund :: tund :: tund :: tund :: tund :: [], [.cells 25 [.int .i64 v4, .int .i64 v5]]⟩
def x62_1_0_k0  (y0 : Int) (y1 : Int) (y2 : Int) (y3 : Int) : St := ⟨tund :: .v (.one (.int .i64 y0)) :: tund :: tund :: .v (.one (.ptr 0 0)) :: tund :: tund :: .v (.one (.int .i64 y1)) :: tund :: tund :: tund :: tund :: tund :: tund :: tund :: tund :: tund :: tund :: tund :: tund :: tund :: tund :: tund :: tund :: tund :: tund :: tund :: tund :: tund :: tund :: tund :: tund :: tund :: tund :: tund :: tund :: tund :: tund :: tund :: tund :: tund :: tund :: tund :: tund :: tund :: tund :: tund :: tund :: tund :: tund :: tund :: tund :: tund :: tund :: tund :: tund :: tund :: tund :: tund :: tund :: [], [.cells 25 [.int .i64 y2, .int .i64 y3]]⟩
theorem fl62_0_0 (s : St) : refSt (h62_0_0 ByteArray.empty 0 0 0 0) s = h62_0_0 (strS (oneA (vT (nx tund s.tmps 0)))) (intS (oneA (vT (nx tund s.tmps 1)))) (intS (oneA (vT (nx tund s.tmps 6)))) (intS (nx .und (cellsB (nx .dead s.blks 0)) 0)) (intS (nx .und (cellsB (nx .dead s.blks 0)) 1)) := by kernel_rfl
def VLS62_0 {β : Type} (N : Nat) (zq48 : Nat → ByteArray → Int → Int → Int → Int → (Bool → Int → Int → Option β) → (ByteArray → Int → Int → Int → Option β) → Option β) : LSpec β := fun s K => cond (shpSt (h62_0_0 ByteArray.empty 0 0 0 0) s) ((fun (v0 : ByteArray) (v1 : Int) (v2 : Int) (v3 : Int) (v4 : Int) => zq48  N v0 v1 v2 v3 v4 (fun y0 y1 y2 => K .ret (x62_0_0_k0  y0 y1 y2)) (fun y0 y1 y2 y3 => K (.exit 0) (x62_0_0_k1  y0 y1 y2 y3))) (strS (oneA (vT (nx tund s.tmps 0)))) (intS (oneA (vT (nx tund s.tmps 1)))) (intS (oneA (vT (nx tund s.tmps 6)))) (intS (nx .und (cellsB (nx .dead s.blks 0)) 0)) (intS (nx .und (cellsB (nx .dead s.blks 0)) 1))) (none)
def LS62_0 {β : Type} (N : Nat) : LSpec β := VLS62_0 N (zj48 N)
theorem fl62_1_0 (s : St) : refSt (h62_1_0 ByteArray.empty 0 0 0 0 0) s = h62_1_0 (strS (oneA (vT (nx tund s.tmps 0)))) (intS (oneA (vT (nx tund s.tmps 1)))) (intS (oneA (vT (nx tund s.tmps 7)))) (intS (oneA (vT (nx tund s.tmps 8)))) (intS (nx .und (cellsB (nx .dead s.blks 0)) 0)) (intS (nx .und (cellsB (nx .dead s.blks 0)) 1)) := by kernel_rfl
def VLS62_2 {β : Type} (N : Nat) (zq50 : Nat → ByteArray → Int → Int → Int → Int → Int → (Int → Int → Int → Int → Option β) → Option β) : LSpec β := fun s K => cond (shpSt (h62_1_0 ByteArray.empty 0 0 0 0 0) s) ((fun (v0 : ByteArray) (v1 : Int) (v2 : Int) (v3 : Int) (v4 : Int) (v5 : Int) => zq50  N v0 v1 v2 v3 v4 v5 (fun y0 y1 y2 y3 => K (.exit 2) (x62_1_0_k0  y0 y1 y2 y3))) (strS (oneA (vT (nx tund s.tmps 0)))) (intS (oneA (vT (nx tund s.tmps 1)))) (intS (oneA (vT (nx tund s.tmps 7)))) (intS (oneA (vT (nx tund s.tmps 8)))) (intS (nx .und (cellsB (nx .dead s.blks 0)) 0)) (intS (nx .und (cellsB (nx .dead s.blks 0)) 1))) (none)
def LS62_2 {β : Type} (N : Nat) : LSpec β := VLS62_2 N (zj50 N)
def VE62 {β : Type} (N : Nat) (zq40 : (a0 : ByteArray) → (k : Bool → Option β) → Option β) (zq0 : (a0 : Int) → (a1 : Int) → (a2 : Int) → (k : Bool → Option β) → Option β) (zq46 : (a0 : ByteArray) → (a1 : Int) → (k : Int → Int → Option β) → Option β) (zq48 : Nat → ByteArray → Int → Int → Int → Int → (Bool → Int → Int → Option β) → (ByteArray → Int → Int → Int → Option β) → Option β) (zq50 : Nat → ByteArray → Int → Int → Int → Int → Int → (Int → Int → Int → Int → Option β) → Option β) : Env β := ⟨[(125, VS125 N zq40), (57, VS57 N zq0), (126, VS126 N zq46)], [], [(0, VLS62_0 N zq48), (2, VLS62_2 N zq50)], [], ⟨[], [], [], []⟩⟩
def E62 {β : Type} (N : Nat) : Env β := VE62 N (zj40 N) (zj0 N) (zj46 N) (zj48 N) (zj50 N)
def zb47 {β : Type} (N : Nat)  (v0 : ByteArray) (v1 : Int) (v2 : Int) (v3 : Int) (v4 : Int) (rec_ : ByteArray → Int → Int → Int → Int → Option β) (k0 : Bool → Int → Int → Option β) (k1 : ByteArray → Int → Int → Int → Option β) : Option β :=
(cond ((decide (v2 < (v0.size : Int))))
((gd ((decide (0 ≤ v2)))
((gd ((decide (v2 < (v0.size : Int))))
((cond ((decide ((bt v0 v2) ≥ 97)))
((gd ((decide (0 ≤ v2)))
((gd ((decide (v2 < (v0.size : Int))))
((cond ((decide ((w64 ((w8 ((bt v0 v2) - 97)))) ≥ v1)))
(k0 false 0 0)
(rec_ v0 v1 ((w64 (v2 + 1))) v3 v4)))))))
(rec_ v0 v1 ((w64 (v2 + 1))) v3 v4)))))))
(k1 v0 v1 v3 v4))
theorem zt47 {β : Type} (N : Nat)  (v0 : ByteArray) (v1 : Int) (v2 : Int) (v3 : Int) (v4 : Int) (rec_ : ByteArray → Int → Int → Int → Int → Option β) (k0 : Bool → Int → Int → Option β) (k1 : ByteArray → Int → Int → Int → Option β) : zj47 N v0 v1 v2 v3 v4 rec_ k0 k1 = zb47 N v0 v1 v2 v3 v4 rec_ k0 k1 := by
  unfold zj47 zb47
  rfl
theorem vst62_0_0 {β : Type} (N : Nat) (zq40 : (a0 : ByteArray) → (k : Bool → Option β) → Option β) (zq0 : (a0 : Int) → (a1 : Int) → (a2 : Int) → (k : Bool → Option β) → Option β) (zq46 : (a0 : ByteArray) → (a1 : Int) → (k : Int → Int → Option β) → Option β) (zq48 : Nat → ByteArray → Int → Int → Int → Int → (Bool → Int → Int → Option β) → (ByteArray → Int → Int → Int → Option β) → Option β) (zq50 : Nat → ByteArray → Int → Int → Int → Int → Int → (Int → Int → Int → Int → Option β) → Option β)  (v0 : ByteArray) (v1 : Int) (v2 : Int) (v3 : Int) (v4 : Int) (rec_ : St → Option β) (K : Exit → St → Option β) :
    ev lay (VE62 N zq40 zq0 zq46 zq48 zq50) (retMask Tryz.f62) (lp Tryz.f62 0).body (lp Tryz.f62 0).ex ((lp Tryz.f62 0).lv (retMask Tryz.f62)) (h62_0_0  v0 v1 v2 v3 v4) (nextR (fun s' => rec_ (s'.tidy ((lp Tryz.f62 0).lv (retMask Tryz.f62)))) K) = zb47 N  v0 v1 v2 v3 v4 (fun v0 v1 v2 v3 v4 => rec_ (h62_0_0  v0 v1 v2 v3 v4)) (fun y0 y1 y2 => K .ret (x62_0_0_k0  y0 y1 y2)) (fun y0 y1 y2 y3 => K (.exit 0) (x62_0_0_k1  y0 y1 y2 y3)) := by kernel_rfl
theorem st62_0_0 {β : Type} (N : Nat)  (v0 : ByteArray) (v1 : Int) (v2 : Int) (v3 : Int) (v4 : Int) (rec_ : St → Option β) (K : Exit → St → Option β) :
    ev lay (E62 N) (retMask Tryz.f62) (lp Tryz.f62 0).body (lp Tryz.f62 0).ex ((lp Tryz.f62 0).lv (retMask Tryz.f62)) (h62_0_0  v0 v1 v2 v3 v4) (nextR (fun s' => rec_ (s'.tidy ((lp Tryz.f62 0).lv (retMask Tryz.f62)))) K) = zj47 N  v0 v1 v2 v3 v4 (fun v0 v1 v2 v3 v4 => rec_ (h62_0_0  v0 v1 v2 v3 v4)) (fun y0 y1 y2 => K .ret (x62_0_0_k0  y0 y1 y2)) (fun y0 y1 y2 y3 => K (.exit 0) (x62_0_0_k1  y0 y1 y2 y3)) := (vst62_0_0 N (zj40 N) (zj0 N) (zj46 N) (zj48 N) (zj50 N) v0 v1 v2 v3 v4 rec_ K).trans (zt47 N  v0 v1 v2 v3 v4 (fun v0 v1 v2 v3 v4 => rec_ (h62_0_0  v0 v1 v2 v3 v4)) (fun y0 y1 y2 => K .ret (x62_0_0_k0  y0 y1 y2)) (fun y0 y1 y2 y3 => K (.exit 0) (x62_0_0_k1  y0 y1 y2 y3))).symm
theorem ro62_0_0 {β : Type} (N : Nat)  (K : Exit → St → Option β) : ∀ (F : Nat) (v0 : ByteArray) (v1 : Int) (v2 : Int) (v3 : Int) (v4 : Int), (lp Tryz.f62 0).rounds lay (E62 N) (retMask Tryz.f62) F (h62_0_0  v0 v1 v2 v3 v4) K = zj48 N  F v0 v1 v2 v3 v4 (fun y0 y1 y2 => K .ret (x62_0_0_k0  y0 y1 y2)) (fun y0 y1 y2 y3 => K (.exit 0) (x62_0_0_k1  y0 y1 y2 y3)) := by
  intro F
  induction F with
  | zero => intros; rfl
  | succ F ih =>
    intros
    rw [rounds_next]
    refine (st62_0_0 N  _ _ _ _ _ (fun s => (lp Tryz.f62 0).rounds lay (E62 N) (retMask Tryz.f62) F s K) K).trans ?_
    simp only [ih]
    rfl
theorem lk62_0 {β : Type} (N : Nat) : lookL (E62 (β := β) N).loops (lp Tryz.f62 0).id = LS62_0 N := by kernel_rfl
theorem rk62_0 {β : Type} (N : Nat) : RoundsOK lay (E62 (β := β) N) (retMask Tryz.f62) (lp Tryz.f62 0) := by
  intro s K r h
  rw [lk62_0] at h
  unfold LS62_0 VLS62_0 at h
  cases hb : shpSt (h62_0_0 ByteArray.empty 0 0 0 0) s with
  | true =>
    rw [hb, cond_true] at h
    exact ⟨N, by rw [← shpSt_ref hb, fl62_0_0 s]; exact (ro62_0_0 N  K N (strS (oneA (vT (nx tund s.tmps 0)))) (intS (oneA (vT (nx tund s.tmps 1)))) (intS (oneA (vT (nx tund s.tmps 6)))) (intS (nx .und (cellsB (nx .dead s.blks 0)) 0)) (intS (nx .und (cellsB (nx .dead s.blks 0)) 1))).trans h⟩
  | false =>
  rw [hb, cond_false] at h
  clear hb
  cases h
def zb49 {β : Type} (N : Nat) (zq46 : (a0 : ByteArray) → (a1 : Int) → (k : Int → Int → Option β) → Option β)  (v0 : ByteArray) (v1 : Int) (v2 : Int) (v3 : Int) (v4 : Int) (v5 : Int) (rec_ : ByteArray → Int → Int → Int → Int → Int → Option β) (k0 : Int → Int → Int → Int → Option β) : Option β :=
(gd ((decide (0 ≤ v1)))
((cond ((decide (v3 < (shlI .i64 1 v1))))
(zq46 v0 v3 fun r9 r10 =>
(gd ((decide (0 ≤ v3)))
(rec_ v0 v1 ((bits .or .i64 v2 (shlI .i64 r9 v3))) ((w64 (v3 + 1))) v4 v5)))
(k0 v1 v2 v4 v5))))
theorem zt49 {β : Type} (N : Nat)  (v0 : ByteArray) (v1 : Int) (v2 : Int) (v3 : Int) (v4 : Int) (v5 : Int) (rec_ : ByteArray → Int → Int → Int → Int → Int → Option β) (k0 : Int → Int → Int → Int → Option β) : zj49 N v0 v1 v2 v3 v4 v5 rec_ k0 = zb49 N (zj46 N) v0 v1 v2 v3 v4 v5 rec_ k0 := by
  unfold zj49 zb49
  rfl
theorem vst62_1_0 {β : Type} (N : Nat) (zq40 : (a0 : ByteArray) → (k : Bool → Option β) → Option β) (zq0 : (a0 : Int) → (a1 : Int) → (a2 : Int) → (k : Bool → Option β) → Option β) (zq46 : (a0 : ByteArray) → (a1 : Int) → (k : Int → Int → Option β) → Option β) (zq48 : Nat → ByteArray → Int → Int → Int → Int → (Bool → Int → Int → Option β) → (ByteArray → Int → Int → Int → Option β) → Option β) (zq50 : Nat → ByteArray → Int → Int → Int → Int → Int → (Int → Int → Int → Int → Option β) → Option β)  (v0 : ByteArray) (v1 : Int) (v2 : Int) (v3 : Int) (v4 : Int) (v5 : Int) (rec_ : St → Option β) (K : Exit → St → Option β) :
    ev lay (VE62 N zq40 zq0 zq46 zq48 zq50) (retMask Tryz.f62) (lp Tryz.f62 1).body (lp Tryz.f62 1).ex ((lp Tryz.f62 1).lv (retMask Tryz.f62)) (h62_1_0  v0 v1 v2 v3 v4 v5) (nextR (fun s' => rec_ (s'.tidy ((lp Tryz.f62 1).lv (retMask Tryz.f62)))) K) = zb49 N zq46  v0 v1 v2 v3 v4 v5 (fun v0 v1 v2 v3 v4 v5 => rec_ (h62_1_0  v0 v1 v2 v3 v4 v5)) (fun y0 y1 y2 y3 => K (.exit 2) (x62_1_0_k0  y0 y1 y2 y3)) := by kernel_rfl
theorem st62_1_0 {β : Type} (N : Nat)  (v0 : ByteArray) (v1 : Int) (v2 : Int) (v3 : Int) (v4 : Int) (v5 : Int) (rec_ : St → Option β) (K : Exit → St → Option β) :
    ev lay (E62 N) (retMask Tryz.f62) (lp Tryz.f62 1).body (lp Tryz.f62 1).ex ((lp Tryz.f62 1).lv (retMask Tryz.f62)) (h62_1_0  v0 v1 v2 v3 v4 v5) (nextR (fun s' => rec_ (s'.tidy ((lp Tryz.f62 1).lv (retMask Tryz.f62)))) K) = zj49 N  v0 v1 v2 v3 v4 v5 (fun v0 v1 v2 v3 v4 v5 => rec_ (h62_1_0  v0 v1 v2 v3 v4 v5)) (fun y0 y1 y2 y3 => K (.exit 2) (x62_1_0_k0  y0 y1 y2 y3)) := (vst62_1_0 N (zj40 N) (zj0 N) (zj46 N) (zj48 N) (zj50 N) v0 v1 v2 v3 v4 v5 rec_ K).trans (zt49 N  v0 v1 v2 v3 v4 v5 (fun v0 v1 v2 v3 v4 v5 => rec_ (h62_1_0  v0 v1 v2 v3 v4 v5)) (fun y0 y1 y2 y3 => K (.exit 2) (x62_1_0_k0  y0 y1 y2 y3))).symm
theorem ro62_1_0 {β : Type} (N : Nat)  (K : Exit → St → Option β) : ∀ (F : Nat) (v0 : ByteArray) (v1 : Int) (v2 : Int) (v3 : Int) (v4 : Int) (v5 : Int), (lp Tryz.f62 1).rounds lay (E62 N) (retMask Tryz.f62) F (h62_1_0  v0 v1 v2 v3 v4 v5) K = zj50 N  F v0 v1 v2 v3 v4 v5 (fun y0 y1 y2 y3 => K (.exit 2) (x62_1_0_k0  y0 y1 y2 y3)) := by
  intro F
  induction F with
  | zero => intros; rfl
  | succ F ih =>
    intros
    rw [rounds_next]
    refine (st62_1_0 N  _ _ _ _ _ _ (fun s => (lp Tryz.f62 1).rounds lay (E62 N) (retMask Tryz.f62) F s K) K).trans ?_
    simp only [ih]
    rfl
theorem lk62_2 {β : Type} (N : Nat) : lookL (E62 (β := β) N).loops (lp Tryz.f62 1).id = LS62_2 N := by kernel_rfl
theorem rk62_2 {β : Type} (N : Nat) : RoundsOK lay (E62 (β := β) N) (retMask Tryz.f62) (lp Tryz.f62 1) := by
  intro s K r h
  rw [lk62_2] at h
  unfold LS62_2 VLS62_2 at h
  cases hb : shpSt (h62_1_0 ByteArray.empty 0 0 0 0 0) s with
  | true =>
    rw [hb, cond_true] at h
    exact ⟨N, by rw [← shpSt_ref hb, fl62_1_0 s]; exact (ro62_1_0 N  K N (strS (oneA (vT (nx tund s.tmps 0)))) (intS (oneA (vT (nx tund s.tmps 1)))) (intS (oneA (vT (nx tund s.tmps 7)))) (intS (oneA (vT (nx tund s.tmps 8)))) (intS (nx .und (cellsB (nx .dead s.blks 0)) 0)) (intS (nx .und (cellsB (nx .dead s.blks 0)) 1))).trans h⟩
  | false =>
  rw [hb, cond_false] at h
  clear hb
  cases h
def zb51 {β : Type} (N : Nat) (zq40 : (a0 : ByteArray) → (k : Bool → Option β) → Option β) (zq0 : (a0 : Int) → (a1 : Int) → (a2 : Int) → (k : Bool → Option β) → Option β) (zq48 : Nat → ByteArray → Int → Int → Int → Int → (Bool → Int → Int → Option β) → (ByteArray → Int → Int → Int → Option β) → Option β) (zq50 : Nat → ByteArray → Int → Int → Int → Int → Int → (Int → Int → Int → Int → Option β) → Option β) (a0 : ByteArray) (a1 : Int) (k : Int → Int → Bool → Option β) : Option β :=
zq40 a0 fun r5 =>
(cond (!r5)
(k 0 0 false)
(zq0 a1 0 5 fun r6 =>
(cond (!r6)
(k 0 0 false)
(zq48  N a0 a1 0 0 0 (fun e7_0 e7_1 e7_2 =>
k e7_1 e7_2 e7_0) (fun e8_0 e8_1 e8_2 e8_3 =>
zq50  N e8_0 e8_1 0 0 e8_2 e8_3 (fun e11_0 e11_1 e11_2 e11_3 =>
k e11_0 e11_1 true))))))
theorem zt51 {β : Type} (N : Nat) (a0 : ByteArray) (a1 : Int) (k : Int → Int → Bool → Option β) : zj51 N a0 a1 k = zb51 N (zj40 N) (zj0 N) (zj48 N) (zj50 N) a0 a1 k := by
  unfold zj51 zb51
  rfl
theorem ve62_0 {β : Type} (N : Nat) (zq40 : (a0 : ByteArray) → (k : Bool → Option β) → Option β) (zq0 : (a0 : Int) → (a1 : Int) → (a2 : Int) → (k : Bool → Option β) → Option β) (zq46 : (a0 : ByteArray) → (a1 : Int) → (k : Int → Int → Option β) → Option β) (zq48 : Nat → ByteArray → Int → Int → Int → Int → (Bool → Int → Int → Option β) → (ByteArray → Int → Int → Int → Option β) → Option β) (zq50 : Nat → ByteArray → Int → Int → Int → Int → Int → (Int → Int → Int → Int → Option β) → Option β)  (a0 : ByteArray) (a1 : Int) (K : TV → Option β) : evFn lay (VE62 N zq40 zq0 zq46 zq48 zq50) Tryz.f62 [.v (.one (.str a0)), .v (.one (.int .i64 a1))] K = zb51 N zq40 zq0 zq48 zq50 a0 a1 (fun z2 z3 z4 => K (.tup [.agg [.int .i64 z2, .int .i64 z3], .one (.bool z4)])) := by kernel_rfl
theorem e62_0 {β : Type} (N : Nat)  (a0 : ByteArray) (a1 : Int) (K : TV → Option β) : evFn lay (E62 N) Tryz.f62 [.v (.one (.str a0)), .v (.one (.int .i64 a1))] K = zj51 N a0 a1 (fun z2 z3 z4 => K (.tup [.agg [.int .i64 z2, .int .i64 z3], .one (.bool z4)])) := (ve62_0 N (zj40 N) (zj0 N) (zj46 N) (zj48 N) (zj50 N) a0 a1 K).trans (zt51 N a0 a1 (fun z2 z3 z4 => K (.tup [.agg [.int .i64 z2, .int .i64 z3], .one (.bool z4)]))).symm
theorem o62 {β : Type} (N : Nat) : SpecOK (β := β) inv Tryz.prog 62 (S62 N) := by
  refine spec_of lay_ok mixed (E := E62 N) (specs_loops (specs_cons (o125 N) (specs_cons (o57 N) (specs_cons (o126 N) specs_nil)))) muts_nil gs_nil Tryz.func62 (by kernel_rfl) 2 (by kernel_rfl) ⟨⟨trivial, rk62_0 N⟩, rk62_2 N⟩ fun args K r h => ?_
  unfold S62 VS62 at h
  split at h
  · exact (e62_0 N _ _ _).trans h
  · cases h
def VSF185 {β : Type} (N : Nat) (zq53 : Nat → ByteArray → Int → (Int → Option β) → Option β) (G : Nat) : Rv.Spec β := fun args K => match args with
  | [.v (.one (.str a0)), .v (.one (.int .i64 a1))] => zq53 G a0 a1 (fun z2 => K (.v (.one (.int .i64 z2))))
  | _ => none
def SF185 {β : Type} (N : Nat) (G : Nat) : Rv.Spec β := VSF185 N (zj53 N) G
def VS185 {β : Type} (N : Nat) (zq53 : Nat → ByteArray → Int → (Int → Option β) → Option β) : Rv.Spec β := VSF185 N zq53 N
def S185 {β : Type} (N : Nat) : Rv.Spec β := SF185 N N
def VE185 {β : Type} (N : Nat) (zq53 : Nat → ByteArray → Int → (Int → Option β) → Option β) (G : Nat) : Env β := ⟨[(185, VSF185 N zq53 G)], [], [], [], ⟨[], [], [], []⟩⟩
def E185 {β : Type} (N : Nat) (G : Nat) : Env β := VE185 N (zj53 N) G
def zb52 {β : Type} (N : Nat) (self : ByteArray → Int → (Int → Option β) → Option β) (a0 : ByteArray) (a1 : Int) (k : Int → Option β) : Option β :=
(cond ((decide (a1 ≥ (a0.size : Int))))
(k (-1))
((gd ((decide (0 ≤ a1)))
((gd ((decide (a1 < (a0.size : Int))))
((cond (((bt a0 a1) == 97))
((cond (((bt a0 a1) == 97))
(k ((w64 (a1 + 1))))
((cond (((bt a0 a1) == 33))
(self a0 ((w64 (a1 + 1))) fun r3 =>
k r3)
((cond (((bt a0 a1) == 38))
((cond (((bt a0 a1) == 38))
(self a0 ((w64 (a1 + 1))) fun r4 =>
(cond ((decide (r4 < 0)))
(k (-1))
(self a0 r4 fun r5 =>
k r5)))
(k (-1))))
((cond (((bt a0 a1) == 124))
((cond (((bt a0 a1) == 124))
(self a0 ((w64 (a1 + 1))) fun r6 =>
(cond ((decide (r6 < 0)))
(k (-1))
(self a0 r6 fun r7 =>
k r7)))
(k (-1))))
((cond (((bt a0 a1) == 94))
(self a0 ((w64 (a1 + 1))) fun r8 =>
(cond ((decide (r8 < 0)))
(k (-1))
(self a0 r8 fun r9 =>
k r9)))
(k (-1))))))))))))
((cond (((bt a0 a1) == 98))
((cond (((bt a0 a1) == 98))
(k ((w64 (a1 + 1))))
((cond (((bt a0 a1) == 33))
(self a0 ((w64 (a1 + 1))) fun r10 =>
k r10)
((cond (((bt a0 a1) == 38))
((cond (((bt a0 a1) == 38))
(self a0 ((w64 (a1 + 1))) fun r11 =>
(cond ((decide (r11 < 0)))
(k (-1))
(self a0 r11 fun r12 =>
k r12)))
(k (-1))))
((cond (((bt a0 a1) == 124))
((cond (((bt a0 a1) == 124))
(self a0 ((w64 (a1 + 1))) fun r13 =>
(cond ((decide (r13 < 0)))
(k (-1))
(self a0 r13 fun r14 =>
k r14)))
(k (-1))))
((cond (((bt a0 a1) == 94))
(self a0 ((w64 (a1 + 1))) fun r15 =>
(cond ((decide (r15 < 0)))
(k (-1))
(self a0 r15 fun r16 =>
k r16)))
(k (-1))))))))))))
((cond (((bt a0 a1) == 99))
((cond (((bt a0 a1) == 99))
(k ((w64 (a1 + 1))))
((cond (((bt a0 a1) == 33))
(self a0 ((w64 (a1 + 1))) fun r17 =>
k r17)
((cond (((bt a0 a1) == 38))
((cond (((bt a0 a1) == 38))
(self a0 ((w64 (a1 + 1))) fun r18 =>
(cond ((decide (r18 < 0)))
(k (-1))
(self a0 r18 fun r19 =>
k r19)))
(k (-1))))
((cond (((bt a0 a1) == 124))
((cond (((bt a0 a1) == 124))
(self a0 ((w64 (a1 + 1))) fun r20 =>
(cond ((decide (r20 < 0)))
(k (-1))
(self a0 r20 fun r21 =>
k r21)))
(k (-1))))
((cond (((bt a0 a1) == 94))
(self a0 ((w64 (a1 + 1))) fun r22 =>
(cond ((decide (r22 < 0)))
(k (-1))
(self a0 r22 fun r23 =>
k r23)))
(k (-1))))))))))))
((cond (((bt a0 a1) == 100))
((cond (((bt a0 a1) == 100))
(k ((w64 (a1 + 1))))
((cond (((bt a0 a1) == 33))
(self a0 ((w64 (a1 + 1))) fun r24 =>
k r24)
((cond (((bt a0 a1) == 38))
((cond (((bt a0 a1) == 38))
(self a0 ((w64 (a1 + 1))) fun r25 =>
(cond ((decide (r25 < 0)))
(k (-1))
(self a0 r25 fun r26 =>
k r26)))
(k (-1))))
((cond (((bt a0 a1) == 124))
((cond (((bt a0 a1) == 124))
(self a0 ((w64 (a1 + 1))) fun r27 =>
(cond ((decide (r27 < 0)))
(k (-1))
(self a0 r27 fun r28 =>
k r28)))
(k (-1))))
((cond (((bt a0 a1) == 94))
(self a0 ((w64 (a1 + 1))) fun r29 =>
(cond ((decide (r29 < 0)))
(k (-1))
(self a0 r29 fun r30 =>
k r30)))
(k (-1))))))))))))
((cond (((bt a0 a1) == 101))
((cond (((bt a0 a1) == 101))
(k ((w64 (a1 + 1))))
((cond (((bt a0 a1) == 33))
(self a0 ((w64 (a1 + 1))) fun r31 =>
k r31)
((cond (((bt a0 a1) == 38))
((cond (((bt a0 a1) == 38))
(self a0 ((w64 (a1 + 1))) fun r32 =>
(cond ((decide (r32 < 0)))
(k (-1))
(self a0 r32 fun r33 =>
k r33)))
(k (-1))))
((cond (((bt a0 a1) == 124))
((cond (((bt a0 a1) == 124))
(self a0 ((w64 (a1 + 1))) fun r34 =>
(cond ((decide (r34 < 0)))
(k (-1))
(self a0 r34 fun r35 =>
k r35)))
(k (-1))))
((cond (((bt a0 a1) == 94))
(self a0 ((w64 (a1 + 1))) fun r36 =>
(cond ((decide (r36 < 0)))
(k (-1))
(self a0 r36 fun r37 =>
k r37)))
(k (-1))))))))))))
((cond (((bt a0 a1) == 48))
((cond (((bt a0 a1) == 48))
(k ((w64 (a1 + 1))))
((cond (((bt a0 a1) == 33))
(self a0 ((w64 (a1 + 1))) fun r38 =>
k r38)
((cond (((bt a0 a1) == 38))
((cond (((bt a0 a1) == 38))
(self a0 ((w64 (a1 + 1))) fun r39 =>
(cond ((decide (r39 < 0)))
(k (-1))
(self a0 r39 fun r40 =>
k r40)))
(k (-1))))
((cond (((bt a0 a1) == 124))
((cond (((bt a0 a1) == 124))
(self a0 ((w64 (a1 + 1))) fun r41 =>
(cond ((decide (r41 < 0)))
(k (-1))
(self a0 r41 fun r42 =>
k r42)))
(k (-1))))
((cond (((bt a0 a1) == 94))
(self a0 ((w64 (a1 + 1))) fun r43 =>
(cond ((decide (r43 < 0)))
(k (-1))
(self a0 r43 fun r44 =>
k r44)))
(k (-1))))))))))))
((cond (((bt a0 a1) == 49))
(k ((w64 (a1 + 1))))
((cond (((bt a0 a1) == 33))
(self a0 ((w64 (a1 + 1))) fun r45 =>
k r45)
((cond (((bt a0 a1) == 38))
((cond (((bt a0 a1) == 38))
(self a0 ((w64 (a1 + 1))) fun r46 =>
(cond ((decide (r46 < 0)))
(k (-1))
(self a0 r46 fun r47 =>
k r47)))
(k (-1))))
((cond (((bt a0 a1) == 124))
((cond (((bt a0 a1) == 124))
(self a0 ((w64 (a1 + 1))) fun r48 =>
(cond ((decide (r48 < 0)))
(k (-1))
(self a0 r48 fun r49 =>
k r49)))
(k (-1))))
((cond (((bt a0 a1) == 94))
(self a0 ((w64 (a1 + 1))) fun r50 =>
(cond ((decide (r50 < 0)))
(k (-1))
(self a0 r50 fun r51 =>
k r51)))
(k (-1)))))))))))))))))))))))))))))
theorem zt52 {β : Type} (N : Nat) (self : ByteArray → Int → (Int → Option β) → Option β) (a0 : ByteArray) (a1 : Int) (k : Int → Option β) : zj52 N self a0 a1 k = zb52 N self a0 a1 k := by
  unfold zj52 zb52
  rfl
theorem ve185_0 {β : Type} (N : Nat) (zq53 : Nat → ByteArray → Int → (Int → Option β) → Option β) (G : Nat)  (a0 : ByteArray) (a1 : Int) (K : TV → Option β) : evFn lay (VE185 N zq53 G) Tryz.f185 [.v (.one (.str a0)), .v (.one (.int .i64 a1))] K = zb52 N (zq53 G) a0 a1 (fun z2 => K (.v (.one (.int .i64 z2)))) := by kernel_rfl
theorem e185_0 {β : Type} (N : Nat) (G : Nat)  (a0 : ByteArray) (a1 : Int) (K : TV → Option β) : evFn lay (E185 N G) Tryz.f185 [.v (.one (.str a0)), .v (.one (.int .i64 a1))] K = zj53 N (G + 1) a0 a1 (fun z2 => K (.v (.one (.int .i64 z2)))) := (ve185_0 N (zj53 N) G a0 a1 K).trans (zt52 N (zj53 N G) a0 a1 (fun z2 => K (.v (.one (.int .i64 z2))))).symm
theorem z185 {β : Type} (N : Nat) : ∀ args K r, SF185 (β := β) N 0 args K = some r → (none : Option β) = some r := by
  intro args K r h
  unfold SF185 VSF185 at h
  split at h <;> exact h
theorem of185 {β : Type} (N : Nat) : ∀ G, SpecOK (β := β) inv Tryz.prog 185 (SF185 N G) := by
  intro G
  induction G with
  | zero => exact s_zero Tryz.func185 (by kernel_rfl) (z185 N)
  | succ G ih =>
    refine spec_of lay_ok mixed (E := E185 N G) (specs_loops (specs_cons ih specs_nil)) muts_nil gs_nil Tryz.func185 (by kernel_rfl) 0 (by kernel_rfl) trivial fun args K r h => ?_
    unfold SF185 VSF185 at h
    split at h
    · exact (e185_0 N G _ _ _).trans h
    · cases h
theorem o185 {β : Type} (N : Nat) : SpecOK (β := β) inv Tryz.prog 185 (S185 N) := of185 N N
def VS127 {β : Type} (N : Nat) (zq55 : (a0 : ByteArray) → (k : Bool → Option β) → Option β) : Rv.Spec β := fun args K => match args with
  | [.v (.one (.str a0))] => zq55 a0 (fun z1 => K (.v (.one (.bool z1))))
  | _ => none
def S127 {β : Type} (N : Nat) : Rv.Spec β := VS127 N (zj55 N)
def VE127 {β : Type} (N : Nat) (zq53 : Nat → ByteArray → Int → (Int → Option β) → Option β) : Env β := ⟨[(185, VS185 N zq53)], [], [], [], ⟨[], [], [], []⟩⟩
def E127 {β : Type} (N : Nat) : Env β := VE127 N (zj53 N)
def zb55 {β : Type} (N : Nat) (zq53 : Nat → ByteArray → Int → (Int → Option β) → Option β) (a0 : ByteArray) (k : Bool → Option β) : Option β :=
(cond ((decide ((a0.size : Int) ≤ 60)))
((cond ((decide ((a0.size : Int) > 0)))
(zq53 N a0 0 fun r2 =>
k ((r2 == (a0.size : Int))))
(k false)))
(k false))
theorem zt55 {β : Type} (N : Nat) (a0 : ByteArray) (k : Bool → Option β) : zj55 N a0 k = zb55 N (zj53 N) a0 k := by
  unfold zj55 zb55
  rfl
theorem ve127_0 {β : Type} (N : Nat) (zq53 : Nat → ByteArray → Int → (Int → Option β) → Option β)  (a0 : ByteArray) (K : TV → Option β) : evFn lay (VE127 N zq53) Tryz.f127 [.v (.one (.str a0))] K = zb55 N zq53 a0 (fun z1 => K (.v (.one (.bool z1)))) := by kernel_rfl
theorem e127_0 {β : Type} (N : Nat)  (a0 : ByteArray) (K : TV → Option β) : evFn lay (E127 N) Tryz.f127 [.v (.one (.str a0))] K = zj55 N a0 (fun z1 => K (.v (.one (.bool z1)))) := (ve127_0 N (zj53 N) a0 K).trans (zt55 N a0 (fun z1 => K (.v (.one (.bool z1))))).symm
theorem o127 {β : Type} (N : Nat) : SpecOK (β := β) inv Tryz.prog 127 (S127 N) := by
  refine spec_of lay_ok mixed (E := E127 N) (specs_loops (specs_cons (o185 N) specs_nil)) muts_nil gs_nil Tryz.func127 (by kernel_rfl) 0 (by kernel_rfl) trivial fun args K r h => ?_
  unfold S127 VS127 at h
  split at h
  · exact (e127_0 N _ _).trans h
  · cases h
def VSF128 {β : Type} (N : Nat) (zq57 : Nat → ByteArray → Int → Int → (Bool → Option β) → Option β) (G : Nat) : Rv.Spec β := fun args K => match args with
  | [.v (.one (.str a0)), .v (.one (.int .i64 a1)), .v (.one (.int .i64 a2))] => zq57 G a0 a1 a2 (fun z3 => K (.v (.one (.bool z3))))
  | _ => none
def SF128 {β : Type} (N : Nat) (G : Nat) : Rv.Spec β := VSF128 N (zj57 N) G
def VS128 {β : Type} (N : Nat) (zq57 : Nat → ByteArray → Int → Int → (Bool → Option β) → Option β) : Rv.Spec β := VSF128 N zq57 N
def S128 {β : Type} (N : Nat) : Rv.Spec β := SF128 N N
def VE128 {β : Type} (N : Nat) (zq53 : Nat → ByteArray → Int → (Int → Option β) → Option β) (zq57 : Nat → ByteArray → Int → Int → (Bool → Option β) → Option β) (G : Nat) : Env β := ⟨[(185, VS185 N zq53), (128, VSF128 N zq57 G)], [], [], [], ⟨[], [], [], []⟩⟩
def E128 {β : Type} (N : Nat) (G : Nat) : Env β := VE128 N (zj53 N) (zj57 N) G
def zb56 {β : Type} (N : Nat) (zq53 : Nat → ByteArray → Int → (Int → Option β) → Option β) (self : ByteArray → Int → Int → (Bool → Option β) → Option β) (a0 : ByteArray) (a1 : Int) (a2 : Int) (k : Bool → Option β) : Option β :=
(gd ((decide (0 ≤ a1)))
((gd ((decide (a1 < (a0.size : Int))))
((cond (((bt a0 a1) == 48))
(k false)
((cond (((bt a0 a1) == 49))
(k true)
((cond (((bt a0 a1) == 33))
(self a0 ((w64 (a1 + 1))) a2 fun r4 =>
k (!r4))
((cond (((bt a0 a1) == 38))
(self a0 ((w64 (a1 + 1))) a2 fun r5 =>
(cond r5
(zq53 N a0 ((w64 (a1 + 1))) fun r6 =>
self a0 r6 a2 fun r7 =>
k r7)
(k false)))
((cond (((bt a0 a1) == 124))
(self a0 ((w64 (a1 + 1))) a2 fun r8 =>
(cond r8
(k true)
(zq53 N a0 ((w64 (a1 + 1))) fun r9 =>
self a0 r9 a2 fun r10 =>
k r10)))
((cond (((bt a0 a1) == 94))
(self a0 ((w64 (a1 + 1))) a2 fun r11 =>
zq53 N a0 ((w64 (a1 + 1))) fun r12 =>
self a0 r12 a2 fun r13 =>
k ((!(r11 == r13))))
((gd ((decide (0 ≤ a1)))
((gd ((decide (a1 < (a0.size : Int))))
((gd ((decide (0 ≤ (w8 ((bt a0 a1) - 97)))))
(k (((bits .and .i64 (shrI .i64 a2 (w8 ((bt a0 a1) - 97))) 1) == 1))))))))))))))))))))))))
theorem zt56 {β : Type} (N : Nat) (self : ByteArray → Int → Int → (Bool → Option β) → Option β) (a0 : ByteArray) (a1 : Int) (a2 : Int) (k : Bool → Option β) : zj56 N self a0 a1 a2 k = zb56 N (zj53 N) self a0 a1 a2 k := by
  unfold zj56 zb56
  rfl
theorem ve128_0 {β : Type} (N : Nat) (zq53 : Nat → ByteArray → Int → (Int → Option β) → Option β) (zq57 : Nat → ByteArray → Int → Int → (Bool → Option β) → Option β) (G : Nat)  (a0 : ByteArray) (a1 : Int) (a2 : Int) (K : TV → Option β) : evFn lay (VE128 N zq53 zq57 G) Tryz.f128 [.v (.one (.str a0)), .v (.one (.int .i64 a1)), .v (.one (.int .i64 a2))] K = zb56 N zq53 (zq57 G) a0 a1 a2 (fun z3 => K (.v (.one (.bool z3)))) := by kernel_rfl
theorem e128_0 {β : Type} (N : Nat) (G : Nat)  (a0 : ByteArray) (a1 : Int) (a2 : Int) (K : TV → Option β) : evFn lay (E128 N G) Tryz.f128 [.v (.one (.str a0)), .v (.one (.int .i64 a1)), .v (.one (.int .i64 a2))] K = zj57 N (G + 1) a0 a1 a2 (fun z3 => K (.v (.one (.bool z3)))) := (ve128_0 N (zj53 N) (zj57 N) G a0 a1 a2 K).trans (zt56 N (zj57 N G) a0 a1 a2 (fun z3 => K (.v (.one (.bool z3))))).symm
theorem z128 {β : Type} (N : Nat) : ∀ args K r, SF128 (β := β) N 0 args K = some r → (none : Option β) = some r := by
  intro args K r h
  unfold SF128 VSF128 at h
  split at h <;> exact h
theorem of128 {β : Type} (N : Nat) : ∀ G, SpecOK (β := β) inv Tryz.prog 128 (SF128 N G) := by
  intro G
  induction G with
  | zero => exact s_zero Tryz.func128 (by kernel_rfl) (z128 N)
  | succ G ih =>
    refine spec_of lay_ok mixed (E := E128 N G) (specs_loops (specs_cons (o185 N) (specs_cons ih specs_nil))) muts_nil gs_nil Tryz.func128 (by kernel_rfl) 0 (by kernel_rfl) trivial fun args K r h => ?_
    unfold SF128 VSF128 at h
    split at h
    · exact (e128_0 N G _ _ _ _).trans h
    · cases h
theorem o128 {β : Type} (N : Nat) : SpecOK (β := β) inv Tryz.prog 128 (S128 N) := of128 N N
end Go.Proofs.YtemihnclhcobnaaGreatDoor
