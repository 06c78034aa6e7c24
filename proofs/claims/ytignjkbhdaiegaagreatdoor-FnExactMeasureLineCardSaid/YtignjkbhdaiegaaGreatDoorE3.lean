/- The functions that the claims reach answer as their texts do. -/
import Derived.Test.YtignjkbhdaiegaaGreatDoorE2
namespace Go.Proofs.YtignjkbhdaiegaaGreatDoor
open Go.Rv
set_option maxRecDepth 100000
set_option maxHeartbeats 2000000
set_option linter.unusedVariables false
def VS16 {β : Type} (N : Nat) (jq65 : (a0 : ByteArray) → (a1 : Int) → (a2 : Int) → (k : Int → Option β) → Option β) : Rv.Spec β := fun args K => match args with
  | [.v (.one (.str a0)), .v (.agg [.int .i64 a1, .int .i64 a2])] => jq65 a0 a1 a2 (fun z3 => K (.v (.one (.int .i64 z3))))
  | _ => none
def S16 {β : Type} (N : Nat) : Rv.Spec β := VS16 N (j65 N)
def VE16 {β : Type} (N : Nat) (jq2 : (a0 : Int) → (a1 : Int) → (k : Bool → Option β) → Option β) (jq9 : (a0 : Int) → (a1 : Int) → (k : Int → Option β) → Option β) (jq24 : (a0 : Int) → (a1 : Int) → (k : Int → Option β) → Option β) (jq37 : (a0 : Int) → (a1 : Int) → (a2 : Int) → (k : Int → Option β) → Option β) (jq43 : (a0 : Int) → (a1 : Int) → (k : Int → Option β) → Option β) (jq51 : (a0 : Int) → (a1 : Int) → (k : Int → Option β) → Option β) (jq59 : (a0 : Int) → (a1 : Int) → (k : Int → Option β) → Option β) (jq60 : (a0 : Int) → (a1 : Int) → (k : Int → Option β) → Option β) (jq64 : (a0 : Int) → (a1 : Int) → (k : Int → Option β) → Option β) : Env β := ⟨[(13, VS13 N jq2), (63, VS63 N jq9), (64, VS64 N jq24), (65, VS65 N jq37), (66, VS66 N jq43), (67, VS67 N jq51), (68, VS68 N jq59), (69, VS69 N jq60), (70, VS70 N jq64)], [], [], [], ⟨[], [], []⟩⟩
def E16 {β : Type} (N : Nat) : Env β := VE16 N (j2 N) (j9 N) (j24 N) (j37 N) (j43 N) (j51 N) (j59 N) (j60 N) (j64 N)
def jb65 {β : Type} (N : Nat) (jq2 : (a0 : Int) → (a1 : Int) → (k : Bool → Option β) → Option β) (jq9 : (a0 : Int) → (a1 : Int) → (k : Int → Option β) → Option β) (jq24 : (a0 : Int) → (a1 : Int) → (k : Int → Option β) → Option β) (jq37 : (a0 : Int) → (a1 : Int) → (a2 : Int) → (k : Int → Option β) → Option β) (jq43 : (a0 : Int) → (a1 : Int) → (k : Int → Option β) → Option β) (jq51 : (a0 : Int) → (a1 : Int) → (k : Int → Option β) → Option β) (jq59 : (a0 : Int) → (a1 : Int) → (k : Int → Option β) → Option β) (jq60 : (a0 : Int) → (a1 : Int) → (k : Int → Option β) → Option β) (jq64 : (a0 : Int) → (a1 : Int) → (k : Int → Option β) → Option β) (a0 : ByteArray) (a1 : Int) (a2 : Int) (k : Int → Option β) : Option β :=
jq2 a1 a2 fun r4 =>
(cond (!r4)
(k (-1))
((cond ((decide (a1 > 4)))
(k (-1))
((cond ((a0.toList == ((strOf [115, 101, 110, 115, 105, 116, 105, 118, 105, 116, 121])).toList))
(jq9 a1 a2 fun r5 =>
k r5)
((cond ((a0.toList == ((strOf [98, 108, 111, 99, 107, 115])).toList))
(jq24 a1 a2 fun r6 =>
k r6)
((cond ((a0.toList == ((strOf [99, 101, 114, 116, 105, 102, 105, 99, 97, 116, 101])).toList))
(jq37 a1 a2 0 fun r7 =>
jq37 a1 a2 1 fun r8 =>
k ((mxI r7 r8)))
((cond ((a0.toList == ((strOf [100, 101, 112, 116, 104])).toList))
(jq43 a1 a2 fun r9 =>
k r9)
((cond ((a0.toList == ((strOf [100, 101, 103, 114, 101, 101])).toList))
(jq51 a1 a2 fun r10 =>
k ((mxI 0 r10)))
((cond ((a0.toList == ((strOf [100, 101, 103, 114, 101, 101, 50])).toList))
(jq59 a1 a2 fun r11 =>
k ((mxI 0 r11)))
((cond ((a0.toList == ((strOf [111, 110, 101, 115])).toList))
(jq60 a1 a2 fun r12 =>
k r12)
((cond ((a0.toList == ((strOf [105, 110, 102, 108, 117, 101, 110, 99, 101])).toList))
(jq64 a1 a2 fun r13 =>
k r13)
(k (-1)))))))))))))))))))))
theorem jt65 {β : Type} (N : Nat) (a0 : ByteArray) (a1 : Int) (a2 : Int) (k : Int → Option β) : j65 N a0 a1 a2 k = jb65 N (j2 N) (j9 N) (j24 N) (j37 N) (j43 N) (j51 N) (j59 N) (j60 N) (j64 N) a0 a1 a2 k := by
  unfold j65 jb65
  rfl
theorem ve16_0 {β : Type} (N : Nat) (jq2 : (a0 : Int) → (a1 : Int) → (k : Bool → Option β) → Option β) (jq9 : (a0 : Int) → (a1 : Int) → (k : Int → Option β) → Option β) (jq24 : (a0 : Int) → (a1 : Int) → (k : Int → Option β) → Option β) (jq37 : (a0 : Int) → (a1 : Int) → (a2 : Int) → (k : Int → Option β) → Option β) (jq43 : (a0 : Int) → (a1 : Int) → (k : Int → Option β) → Option β) (jq51 : (a0 : Int) → (a1 : Int) → (k : Int → Option β) → Option β) (jq59 : (a0 : Int) → (a1 : Int) → (k : Int → Option β) → Option β) (jq60 : (a0 : Int) → (a1 : Int) → (k : Int → Option β) → Option β) (jq64 : (a0 : Int) → (a1 : Int) → (k : Int → Option β) → Option β)  (a0 : ByteArray) (a1 : Int) (a2 : Int) (K : TV → Option β) : evFn lay (VE16 N jq2 jq9 jq24 jq37 jq43 jq51 jq59 jq60 jq64) Tryz.f16 [.v (.one (.str a0)), .v (.agg [.int .i64 a1, .int .i64 a2])] K = jb65 N jq2 jq9 jq24 jq37 jq43 jq51 jq59 jq60 jq64 a0 a1 a2 (fun z3 => K (.v (.one (.int .i64 z3)))) := by kernel_rfl
theorem e16_0 {β : Type} (N : Nat)  (a0 : ByteArray) (a1 : Int) (a2 : Int) (K : TV → Option β) : evFn lay (E16 N) Tryz.f16 [.v (.one (.str a0)), .v (.agg [.int .i64 a1, .int .i64 a2])] K = j65 N a0 a1 a2 (fun z3 => K (.v (.one (.int .i64 z3)))) := (ve16_0 N (j2 N) (j9 N) (j24 N) (j37 N) (j43 N) (j51 N) (j59 N) (j60 N) (j64 N) a0 a1 a2 K).trans (jt65 N a0 a1 a2 (fun z3 => K (.v (.one (.int .i64 z3))))).symm
theorem o16 {β : Type} (N : Nat) : SpecOK (β := β) inv Tryz.prog 16 (S16 N) := by
  refine spec_of lay_ok mixed (E := E16 N) (specs_loops (specs_cons (o13 N) (specs_cons (o63 N) (specs_cons (o64 N) (specs_cons (o65 N) (specs_cons (o66 N) (specs_cons (o67 N) (specs_cons (o68 N) (specs_cons (o69 N) (specs_cons (o70 N) specs_nil)))))))))) muts_nil gs_nil Tryz.func16 (by kernel_rfl) 0 (by kernel_rfl) trivial fun args K r h => ?_
  unfold S16 VS16 at h
  split at h
  · exact (e16_0 N _ _ _ _).trans h
  · cases h
def VS15 {β : Type} (N : Nat) (jq68 : (a0 : Int) → (k : ByteArray → Option β) → Option β) : Rv.Spec β := fun args K => match args with
  | [.v (.one (.int .i64 a0))] => jq68 a0 (fun z1 => K (.v (.one (.str z1))))
  | _ => none
def S15 {β : Type} (N : Nat) : Rv.Spec β := VS15 N (j68 N)
def h15_0_0  (v0 : Int) (v1 : ByteArray) (v2 : Bool) : St := ⟨.v (.one (.int .i64 v0)) :: tund :: tund :: .v (.one (.str v1)) :: .v (.one (.bool v2)) :: tund :: tund :: tund :: tund :: tund :: tund :: tund :: tund :: tund :: tund :: tund :: tund :: tund :: tund :: tund :: tund :: tund :: tund :: tund :: tund :: tund :: tund :: tund :: tund :: tund :: tund :: [], []⟩
def x15_0_0_k0  (y0 : ByteArray) (y1 : Bool) : St := ⟨tund :: tund :: tund :: .v (.one (.str y0)) :: .v (.one (.bool y1)) :: tund :: tund :: tund :: tund :: tund :: tund :: tund :: tund :: tund :: tund :: tund :: tund :: tund :: tund :: tund :: tund :: tund :: tund :: tund :: tund :: tund :: tund :: tund :: tund :: tund :: tund :: [], []⟩
theorem fl15_0_0 (s : St) : refSt (h15_0_0 0 ByteArray.empty false) s = h15_0_0 (intS (oneA (vT (nx tund s.tmps 0)))) (strS (oneA (vT (nx tund s.tmps 3)))) (boolS (oneA (vT (nx tund s.tmps 4)))) := by kernel_rfl
def VLS15_0 {β : Type} (N : Nat) (jq67 : Nat → Int → ByteArray → Bool → (ByteArray → Bool → Option β) → Option β) : LSpec β := fun s K => cond (shpSt (h15_0_0 0 ByteArray.empty false) s) ((fun (v0 : Int) (v1 : ByteArray) (v2 : Bool) => jq67  N v0 v1 v2 (fun y0 y1 => K (.exit 0) (x15_0_0_k0  y0 y1))) (intS (oneA (vT (nx tund s.tmps 0)))) (strS (oneA (vT (nx tund s.tmps 3)))) (boolS (oneA (vT (nx tund s.tmps 4))))) (none)
def LS15_0 {β : Type} (N : Nat) : LSpec β := VLS15_0 N (j67 N)
def VE15 {β : Type} (N : Nat) (jq67 : Nat → Int → ByteArray → Bool → (ByteArray → Bool → Option β) → Option β) : Env β := ⟨[], [], [(0, VLS15_0 N jq67)], [], ⟨[], [], []⟩⟩
def E15 {β : Type} (N : Nat) : Env β := VE15 N (j67 N)
def jb66 {β : Type} (N : Nat)  (v0 : Int) (v1 : ByteArray) (v2 : Bool) (rec_ : Int → ByteArray → Bool → Option β) (k0 : ByteArray → Bool → Option β) : Option β :=
(cond ((v0 != 0))
((cond ((decide ((remI v0 10) < 0)))
((gd ((decide (((strOf ((([] : List Int) ++ [(w8 ((w64 (48 + (w64 (0 - (remI v0 10)))))))])))).size + v1.size ≤ 9223372036854775807)))
(rec_ ((quoI .i64 v0 10)) (((strOf ((([] : List Int) ++ [(w8 ((w64 (48 + (w64 (0 - (remI v0 10)))))))]))) ++ v1)) v2)))
((gd ((decide (((strOf ((([] : List Int) ++ [(w8 ((w64 (48 + (remI v0 10)))))])))).size + v1.size ≤ 9223372036854775807)))
(rec_ ((quoI .i64 v0 10)) (((strOf ((([] : List Int) ++ [(w8 ((w64 (48 + (remI v0 10)))))]))) ++ v1)) v2)))))
(k0 v1 v2))
theorem jt66 {β : Type} (N : Nat)  (v0 : Int) (v1 : ByteArray) (v2 : Bool) (rec_ : Int → ByteArray → Bool → Option β) (k0 : ByteArray → Bool → Option β) : j66 N v0 v1 v2 rec_ k0 = jb66 N v0 v1 v2 rec_ k0 := by
  unfold j66 jb66
  rfl
theorem vst15_0_0 {β : Type} (N : Nat) (jq67 : Nat → Int → ByteArray → Bool → (ByteArray → Bool → Option β) → Option β)  (v0 : Int) (v1 : ByteArray) (v2 : Bool) (rec_ : St → Option β) (K : Exit → St → Option β) :
    ev lay (VE15 N jq67) (retMask Tryz.f15) (lp Tryz.f15 0).body (lp Tryz.f15 0).ex ((lp Tryz.f15 0).lv (retMask Tryz.f15)) (h15_0_0  v0 v1 v2) (nextR (fun s' => rec_ (s'.tidy ((lp Tryz.f15 0).lv (retMask Tryz.f15)))) K) = jb66 N  v0 v1 v2 (fun v0 v1 v2 => rec_ (h15_0_0  v0 v1 v2)) (fun y0 y1 => K (.exit 0) (x15_0_0_k0  y0 y1)) := by kernel_rfl
theorem st15_0_0 {β : Type} (N : Nat)  (v0 : Int) (v1 : ByteArray) (v2 : Bool) (rec_ : St → Option β) (K : Exit → St → Option β) :
    ev lay (E15 N) (retMask Tryz.f15) (lp Tryz.f15 0).body (lp Tryz.f15 0).ex ((lp Tryz.f15 0).lv (retMask Tryz.f15)) (h15_0_0  v0 v1 v2) (nextR (fun s' => rec_ (s'.tidy ((lp Tryz.f15 0).lv (retMask Tryz.f15)))) K) = j66 N  v0 v1 v2 (fun v0 v1 v2 => rec_ (h15_0_0  v0 v1 v2)) (fun y0 y1 => K (.exit 0) (x15_0_0_k0  y0 y1)) := (vst15_0_0 N (j67 N) v0 v1 v2 rec_ K).trans (jt66 N  v0 v1 v2 (fun v0 v1 v2 => rec_ (h15_0_0  v0 v1 v2)) (fun y0 y1 => K (.exit 0) (x15_0_0_k0  y0 y1))).symm
theorem ro15_0_0 {β : Type} (N : Nat)  (K : Exit → St → Option β) : ∀ (F : Nat) (v0 : Int) (v1 : ByteArray) (v2 : Bool), (lp Tryz.f15 0).rounds lay (E15 N) (retMask Tryz.f15) F (h15_0_0  v0 v1 v2) K = j67 N  F v0 v1 v2 (fun y0 y1 => K (.exit 0) (x15_0_0_k0  y0 y1)) := by
  intro F
  induction F with
  | zero => intros; rfl
  | succ F ih =>
    intros
    rw [rounds_next]
    refine (st15_0_0 N  _ _ _ (fun s => (lp Tryz.f15 0).rounds lay (E15 N) (retMask Tryz.f15) F s K) K).trans ?_
    simp only [ih]
    rfl
theorem lk15_0 {β : Type} (N : Nat) : lookL (E15 (β := β) N).loops (lp Tryz.f15 0).id = LS15_0 N := by kernel_rfl
theorem rk15_0 {β : Type} (N : Nat) : RoundsOK lay (E15 (β := β) N) (retMask Tryz.f15) (lp Tryz.f15 0) := by
  intro s K r h
  rw [lk15_0] at h
  unfold LS15_0 VLS15_0 at h
  cases hb : shpSt (h15_0_0 0 ByteArray.empty false) s with
  | true =>
    rw [hb, cond_true] at h
    exact ⟨N, by rw [← shpSt_ref hb, fl15_0_0 s]; exact (ro15_0_0 N  K N (intS (oneA (vT (nx tund s.tmps 0)))) (strS (oneA (vT (nx tund s.tmps 3)))) (boolS (oneA (vT (nx tund s.tmps 4))))).trans h⟩
  | false =>
  rw [hb, cond_false] at h
  clear hb
  cases h
def jb68 {β : Type} (N : Nat) (jq67 : Nat → Int → ByteArray → Bool → (ByteArray → Bool → Option β) → Option β) (a0 : Int) (k : ByteArray → Option β) : Option β :=
(cond ((a0 == 0))
(k ((strOf [48])))
(jq67  N a0 ByteArray.empty ((decide (a0 < 0))) (fun e2_0 e2_1 =>
(cond e2_1
((gd ((decide (((strOf [45])).size + e2_0.size ≤ 9223372036854775807)))
(k (((strOf [45]) ++ e2_0)))))
(k e2_0)))))
theorem jt68 {β : Type} (N : Nat) (a0 : Int) (k : ByteArray → Option β) : j68 N a0 k = jb68 N (j67 N) a0 k := by
  unfold j68 jb68
  rfl
theorem ve15_0 {β : Type} (N : Nat) (jq67 : Nat → Int → ByteArray → Bool → (ByteArray → Bool → Option β) → Option β)  (a0 : Int) (K : TV → Option β) : evFn lay (VE15 N jq67) Tryz.f15 [.v (.one (.int .i64 a0))] K = jb68 N jq67 a0 (fun z1 => K (.v (.one (.str z1)))) := by kernel_rfl
theorem e15_0 {β : Type} (N : Nat)  (a0 : Int) (K : TV → Option β) : evFn lay (E15 N) Tryz.f15 [.v (.one (.int .i64 a0))] K = j68 N a0 (fun z1 => K (.v (.one (.str z1)))) := (ve15_0 N (j67 N) a0 K).trans (jt68 N a0 (fun z1 => K (.v (.one (.str z1))))).symm
theorem o15 {β : Type} (N : Nat) : SpecOK (β := β) inv Tryz.prog 15 (S15 N) := by
  refine spec_of lay_ok mixed (E := E15 N) (specs_loops specs_nil) muts_nil gs_nil Tryz.func15 (by kernel_rfl) 1 (by kernel_rfl) ⟨trivial, rk15_0 N⟩ fun args K r h => ?_
  unfold S15 VS15 at h
  split at h
  · exact (e15_0 N _ _).trans h
  · cases h
def VSF71 {β : Type} (N : Nat) (jq72 : Nat → Int → Int → Int → Int → Int → (Int → Option β) → Option β) (G : Nat) : Rv.Spec β := fun args K => match args with
  | [.v (.agg [.int .i64 a0, .int .i64 a1]), .v (.one (.int .i64 a2)), .v (.one (.int .i64 a3)), .v (.one (.int .i64 a4))] => jq72 G a0 a1 a2 a3 a4 (fun z5 => K (.v (.one (.int .i64 z5))))
  | _ => none
def SF71 {β : Type} (N : Nat) (G : Nat) : Rv.Spec β := VSF71 N (j72 N) G
def VS71 {β : Type} (N : Nat) (jq72 : Nat → Int → Int → Int → Int → Int → (Int → Option β) → Option β) : Rv.Spec β := VSF71 N jq72 N
def S71 {β : Type} (N : Nat) : Rv.Spec β := SF71 N N
def h71_0_0  (v0 : Int) (v1 : Int) (v2 : Int) (v3 : Int) (v4 : Int) (v5 : Int) (v6 : Int) : St := ⟨tund :: .v (.one (.int .i64 v0)) :: .v (.one (.int .i64 v1)) :: .v (.one (.int .i64 v2)) :: .v (.one (.ptr 0 0)) :: tund :: tund :: tund :: tund :: .v (.one (.int .i64 v3)) :: .v (.one (.int .i64 v4)) :: tund :: tund :: tund :: tund :: tund :: tund :: tund :: tund :: tund :: tund :: tund :: tund :: tund :: tund :: tund :: tund :: tund :: tund :: tund :: tund :: tund :: tund :: tund :: tund :: tund :: tund :: tund :: tund :: tund :: tund :: tund :: tund :: tund :: tund :: tund :: tund :: tund :: tund :: tund :: tund :: tund :: tund :: tund :: [], [.cells 25 [.int .i64 v5, .int .i64 v6]]⟩
def x71_0_0_k0  (y0 : Int) : St := ⟨tund :: tund :: tund :: tund :: tund :: tund :: tund :: tund :: tund :: .v (.one (.int .i64 y0)) :: tund :: tund :: tund :: tund :: tund :: tund :: tund :: tund :: tund :: tund :: tund :: tund :: tund :: tund :: tund :: tund :: tund :: tund :: tund :: tund :: tund :: tund :: tund :: tund :: tund :: tund :: tund :: tund :: tund :: tund :: tund :: tund :: tund :: tund :: tund :: tund :: tund :: tund :: tund :: tund :: tund :: tund :: tund :: tund :: [], []⟩
theorem fl71_0_0 (s : St) : refSt (h71_0_0 0 0 0 0 0 0 0) s = h71_0_0 (intS (oneA (vT (nx tund s.tmps 1)))) (intS (oneA (vT (nx tund s.tmps 2)))) (intS (oneA (vT (nx tund s.tmps 3)))) (intS (oneA (vT (nx tund s.tmps 9)))) (intS (oneA (vT (nx tund s.tmps 10)))) (intS (nx .und (cellsB (nx .dead s.blks 0)) 0)) (intS (nx .und (cellsB (nx .dead s.blks 0)) 1)) := by kernel_rfl
def VLS71_0 {β : Type} (N : Nat) (jq70 : (self : Int → Int → Int → Int → Int → (Int → Option β) → Option β) → Nat → Int → Int → Int → Int → Int → Int → Int → (Int → Option β) → Option β) (jq72 : Nat → Int → Int → Int → Int → Int → (Int → Option β) → Option β) (G : Nat) : LSpec β := fun s K => cond (shpSt (h71_0_0 0 0 0 0 0 0 0) s) ((fun (v0 : Int) (v1 : Int) (v2 : Int) (v3 : Int) (v4 : Int) (v5 : Int) (v6 : Int) => jq70 (jq72 G)  N v0 v1 v2 v3 v4 v5 v6 (fun y0 => K (.exit 0) (x71_0_0_k0  y0))) (intS (oneA (vT (nx tund s.tmps 1)))) (intS (oneA (vT (nx tund s.tmps 2)))) (intS (oneA (vT (nx tund s.tmps 3)))) (intS (oneA (vT (nx tund s.tmps 9)))) (intS (oneA (vT (nx tund s.tmps 10)))) (intS (nx .und (cellsB (nx .dead s.blks 0)) 0)) (intS (nx .und (cellsB (nx .dead s.blks 0)) 1))) (none)
def LS71_0 {β : Type} (N : Nat) (G : Nat) : LSpec β := VLS71_0 N (j70 N) (j72 N) G
def VE71 {β : Type} (N : Nat) (jq30 : (a0 : Int) → (a1 : Int) → (a2 : Int) → (a3 : Int) → (k : Int → Option β) → Option β) (jq72 : Nat → Int → Int → Int → Int → Int → (Int → Option β) → Option β) (jq70 : (self : Int → Int → Int → Int → Int → (Int → Option β) → Option β) → Nat → Int → Int → Int → Int → Int → Int → Int → (Int → Option β) → Option β) (G : Nat) : Env β := ⟨[(128, VS128 N jq30), (71, VSF71 N jq72 G)], [], [(0, VLS71_0 N jq70 jq72 G)], [], ⟨[], [], []⟩⟩
def E71 {β : Type} (N : Nat) (G : Nat) : Env β := VE71 N (j30 N) (j72 N) (j70 N) G
def jb69 {β : Type} (N : Nat) (self : Int → Int → Int → Int → Int → (Int → Option β) → Option β)  (v0 : Int) (v1 : Int) (v2 : Int) (v3 : Int) (v4 : Int) (v5 : Int) (v6 : Int) (rec_ : Int → Int → Int → Int → Int → Int → Int → Option β) (k0 : Int → Option β) : Option β :=
(cond ((decide (v4 < v5)))
((gd ((decide (0 ≤ v4)))
((cond (((bits .and .i64 v0 (shlI .i64 1 v4)) == 0))
((gd ((decide (0 ≤ v2)))
(self v5 v6 ((bits .or .i64 v0 (shlI .i64 1 v4))) v1 ((w64 (v2 - 1))) fun r7 =>
self v5 v6 ((bits .or .i64 v0 (shlI .i64 1 v4))) ((bits .or .i64 v1 (shlI .i64 1 v4))) ((w64 (v2 - 1))) fun r8 =>
rec_ v0 v1 v2 ((mnI v3 (w64 ((w64 ((shlI .i64 1 v2) + r7)) + r8)))) ((w64 (v4 + 1))) v5 v6)))
(rec_ v0 v1 v2 v3 ((w64 (v4 + 1))) v5 v6)))))
(k0 v3))
theorem jt69 {β : Type} (N : Nat) (self : Int → Int → Int → Int → Int → (Int → Option β) → Option β)  (v0 : Int) (v1 : Int) (v2 : Int) (v3 : Int) (v4 : Int) (v5 : Int) (v6 : Int) (rec_ : Int → Int → Int → Int → Int → Int → Int → Option β) (k0 : Int → Option β) : j69 N self v0 v1 v2 v3 v4 v5 v6 rec_ k0 = jb69 N self v0 v1 v2 v3 v4 v5 v6 rec_ k0 := by
  unfold j69 jb69
  rfl
theorem vst71_0_0 {β : Type} (N : Nat) (jq30 : (a0 : Int) → (a1 : Int) → (a2 : Int) → (a3 : Int) → (k : Int → Option β) → Option β) (jq72 : Nat → Int → Int → Int → Int → Int → (Int → Option β) → Option β) (jq70 : (self : Int → Int → Int → Int → Int → (Int → Option β) → Option β) → Nat → Int → Int → Int → Int → Int → Int → Int → (Int → Option β) → Option β) (G : Nat)  (v0 : Int) (v1 : Int) (v2 : Int) (v3 : Int) (v4 : Int) (v5 : Int) (v6 : Int) (rec_ : St → Option β) (K : Exit → St → Option β) :
    ev lay (VE71 N jq30 jq72 jq70 G) (retMask Tryz.f71) (lp Tryz.f71 0).body (lp Tryz.f71 0).ex ((lp Tryz.f71 0).lv (retMask Tryz.f71)) (h71_0_0  v0 v1 v2 v3 v4 v5 v6) (nextR (fun s' => rec_ (s'.tidy ((lp Tryz.f71 0).lv (retMask Tryz.f71)))) K) = jb69 N (jq72 G)  v0 v1 v2 v3 v4 v5 v6 (fun v0 v1 v2 v3 v4 v5 v6 => rec_ (h71_0_0  v0 v1 v2 v3 v4 v5 v6)) (fun y0 => K (.exit 0) (x71_0_0_k0  y0)) := by kernel_rfl
theorem st71_0_0 {β : Type} (N : Nat) (G : Nat)  (v0 : Int) (v1 : Int) (v2 : Int) (v3 : Int) (v4 : Int) (v5 : Int) (v6 : Int) (rec_ : St → Option β) (K : Exit → St → Option β) :
    ev lay (E71 N G) (retMask Tryz.f71) (lp Tryz.f71 0).body (lp Tryz.f71 0).ex ((lp Tryz.f71 0).lv (retMask Tryz.f71)) (h71_0_0  v0 v1 v2 v3 v4 v5 v6) (nextR (fun s' => rec_ (s'.tidy ((lp Tryz.f71 0).lv (retMask Tryz.f71)))) K) = j69 N (j72 N G)  v0 v1 v2 v3 v4 v5 v6 (fun v0 v1 v2 v3 v4 v5 v6 => rec_ (h71_0_0  v0 v1 v2 v3 v4 v5 v6)) (fun y0 => K (.exit 0) (x71_0_0_k0  y0)) := (vst71_0_0 N (j30 N) (j72 N) (j70 N) G v0 v1 v2 v3 v4 v5 v6 rec_ K).trans (jt69 N (j72 N G)  v0 v1 v2 v3 v4 v5 v6 (fun v0 v1 v2 v3 v4 v5 v6 => rec_ (h71_0_0  v0 v1 v2 v3 v4 v5 v6)) (fun y0 => K (.exit 0) (x71_0_0_k0  y0))).symm
theorem ro71_0_0 {β : Type} (N : Nat) (G : Nat)  (K : Exit → St → Option β) : ∀ (F : Nat) (v0 : Int) (v1 : Int) (v2 : Int) (v3 : Int) (v4 : Int) (v5 : Int) (v6 : Int), (lp Tryz.f71 0).rounds lay (E71 N G) (retMask Tryz.f71) F (h71_0_0  v0 v1 v2 v3 v4 v5 v6) K = j70 N (j72 N G)  F v0 v1 v2 v3 v4 v5 v6 (fun y0 => K (.exit 0) (x71_0_0_k0  y0)) := by
  intro F
  induction F with
  | zero => intros; rfl
  | succ F ih =>
    intros
    rw [rounds_next]
    refine (st71_0_0 N G  _ _ _ _ _ _ _ (fun s => (lp Tryz.f71 0).rounds lay (E71 N G) (retMask Tryz.f71) F s K) K).trans ?_
    simp only [ih]
    rfl
theorem lk71_0 {β : Type} (N : Nat) (G : Nat) : lookL (E71 (β := β) N G).loops (lp Tryz.f71 0).id = LS71_0 N G := by kernel_rfl
theorem rk71_0 {β : Type} (N : Nat) (G : Nat) : RoundsOK lay (E71 (β := β) N G) (retMask Tryz.f71) (lp Tryz.f71 0) := by
  intro s K r h
  rw [lk71_0] at h
  unfold LS71_0 VLS71_0 at h
  cases hb : shpSt (h71_0_0 0 0 0 0 0 0 0) s with
  | true =>
    rw [hb, cond_true] at h
    exact ⟨N, by rw [← shpSt_ref hb, fl71_0_0 s]; exact (ro71_0_0 N G  K N (intS (oneA (vT (nx tund s.tmps 1)))) (intS (oneA (vT (nx tund s.tmps 2)))) (intS (oneA (vT (nx tund s.tmps 3)))) (intS (oneA (vT (nx tund s.tmps 9)))) (intS (oneA (vT (nx tund s.tmps 10)))) (intS (nx .und (cellsB (nx .dead s.blks 0)) 0)) (intS (nx .und (cellsB (nx .dead s.blks 0)) 1))).trans h⟩
  | false =>
  rw [hb, cond_false] at h
  clear hb
  cases h
def jb71 {β : Type} (N : Nat) (jq30 : (a0 : Int) → (a1 : Int) → (a2 : Int) → (a3 : Int) → (k : Int → Option β) → Option β) (jq70 : (self : Int → Int → Int → Int → Int → (Int → Option β) → Option β) → Nat → Int → Int → Int → Int → Int → Int → Int → (Int → Option β) → Option β) (self : Int → Int → Int → Int → Int → (Int → Option β) → Option β) (a0 : Int) (a1 : Int) (a2 : Int) (a3 : Int) (a4 : Int) (k : Int → Option β) : Option β :=
jq30 a0 a1 a2 a3 fun r6 =>
(cond ((decide (r6 < 2)))
(k 0)
(jq70 self  N a2 a3 a4 1000 0 a0 a1 (fun e9_0 =>
k e9_0)))
theorem jt71 {β : Type} (N : Nat) (self : Int → Int → Int → Int → Int → (Int → Option β) → Option β) (a0 : Int) (a1 : Int) (a2 : Int) (a3 : Int) (a4 : Int) (k : Int → Option β) : j71 N self a0 a1 a2 a3 a4 k = jb71 N (j30 N) (j70 N) self a0 a1 a2 a3 a4 k := by
  unfold j71 jb71
  rfl
theorem ve71_0 {β : Type} (N : Nat) (jq30 : (a0 : Int) → (a1 : Int) → (a2 : Int) → (a3 : Int) → (k : Int → Option β) → Option β) (jq72 : Nat → Int → Int → Int → Int → Int → (Int → Option β) → Option β) (jq70 : (self : Int → Int → Int → Int → Int → (Int → Option β) → Option β) → Nat → Int → Int → Int → Int → Int → Int → Int → (Int → Option β) → Option β) (G : Nat)  (a0 : Int) (a1 : Int) (a2 : Int) (a3 : Int) (a4 : Int) (K : TV → Option β) : evFn lay (VE71 N jq30 jq72 jq70 G) Tryz.f71 [.v (.agg [.int .i64 a0, .int .i64 a1]), .v (.one (.int .i64 a2)), .v (.one (.int .i64 a3)), .v (.one (.int .i64 a4))] K = jb71 N jq30 jq70 (jq72 G) a0 a1 a2 a3 a4 (fun z5 => K (.v (.one (.int .i64 z5)))) := by kernel_rfl
theorem e71_0 {β : Type} (N : Nat) (G : Nat)  (a0 : Int) (a1 : Int) (a2 : Int) (a3 : Int) (a4 : Int) (K : TV → Option β) : evFn lay (E71 N G) Tryz.f71 [.v (.agg [.int .i64 a0, .int .i64 a1]), .v (.one (.int .i64 a2)), .v (.one (.int .i64 a3)), .v (.one (.int .i64 a4))] K = j72 N (G + 1) a0 a1 a2 a3 a4 (fun z5 => K (.v (.one (.int .i64 z5)))) := (ve71_0 N (j30 N) (j72 N) (j70 N) G a0 a1 a2 a3 a4 K).trans (jt71 N (j72 N G) a0 a1 a2 a3 a4 (fun z5 => K (.v (.one (.int .i64 z5))))).symm
theorem z71 {β : Type} (N : Nat) : ∀ args K r, SF71 (β := β) N 0 args K = some r → (none : Option β) = some r := by
  intro args K r h
  unfold SF71 VSF71 at h
  split at h <;> exact h
theorem of71 {β : Type} (N : Nat) : ∀ G, SpecOK (β := β) inv Tryz.prog 71 (SF71 N G) := by
  intro G
  induction G with
  | zero => exact s_zero Tryz.func71 (by kernel_rfl) (z71 N)
  | succ G ih =>
    refine spec_of lay_ok mixed (E := E71 N G) (specs_loops (specs_cons (o128 N) (specs_cons ih specs_nil))) muts_nil gs_nil Tryz.func71 (by kernel_rfl) 1 (by kernel_rfl) ⟨trivial, rk71_0 N G⟩ fun args K r h => ?_
    unfold SF71 VSF71 at h
    split at h
    · exact (e71_0 N G _ _ _ _ _ _).trans h
    · cases h
theorem o71 {β : Type} (N : Nat) : SpecOK (β := β) inv Tryz.prog 71 (S71 N) := of71 N N
def VS17 {β : Type} (N : Nat) (jq74 : (a0 : Int) → (a1 : Int) → (k : Int → Option β) → Option β) : Rv.Spec β := fun args K => match args with
  | [.v (.agg [.int .i64 a0, .int .i64 a1])] => jq74 a0 a1 (fun z2 => K (.v (.one (.int .i64 z2))))
  | _ => none
def S17 {β : Type} (N : Nat) : Rv.Spec β := VS17 N (j74 N)
def VE17 {β : Type} (N : Nat) (jq2 : (a0 : Int) → (a1 : Int) → (k : Bool → Option β) → Option β) (jq72 : Nat → Int → Int → Int → Int → Int → (Int → Option β) → Option β) : Env β := ⟨[(13, VS13 N jq2), (71, VS71 N jq72)], [], [], [], ⟨[], [], []⟩⟩
def E17 {β : Type} (N : Nat) : Env β := VE17 N (j2 N) (j72 N)
def jb74 {β : Type} (N : Nat) (jq2 : (a0 : Int) → (a1 : Int) → (k : Bool → Option β) → Option β) (jq72 : Nat → Int → Int → Int → Int → Int → (Int → Option β) → Option β) (a0 : Int) (a1 : Int) (k : Int → Option β) : Option β :=
jq2 a0 a1 fun r3 =>
(cond (!r3)
(k (-1))
((cond ((decide (a0 > 4)))
(k (-1))
(jq72 N a0 a1 0 0 a0 fun r4 =>
k r4))))
theorem jt74 {β : Type} (N : Nat) (a0 : Int) (a1 : Int) (k : Int → Option β) : j74 N a0 a1 k = jb74 N (j2 N) (j72 N) a0 a1 k := by
  unfold j74 jb74
  rfl
theorem ve17_0 {β : Type} (N : Nat) (jq2 : (a0 : Int) → (a1 : Int) → (k : Bool → Option β) → Option β) (jq72 : Nat → Int → Int → Int → Int → Int → (Int → Option β) → Option β)  (a0 : Int) (a1 : Int) (K : TV → Option β) : evFn lay (VE17 N jq2 jq72) Tryz.f17 [.v (.agg [.int .i64 a0, .int .i64 a1])] K = jb74 N jq2 jq72 a0 a1 (fun z2 => K (.v (.one (.int .i64 z2)))) := by kernel_rfl
theorem e17_0 {β : Type} (N : Nat)  (a0 : Int) (a1 : Int) (K : TV → Option β) : evFn lay (E17 N) Tryz.f17 [.v (.agg [.int .i64 a0, .int .i64 a1])] K = j74 N a0 a1 (fun z2 => K (.v (.one (.int .i64 z2)))) := (ve17_0 N (j2 N) (j72 N) a0 a1 K).trans (jt74 N a0 a1 (fun z2 => K (.v (.one (.int .i64 z2))))).symm
theorem o17 {β : Type} (N : Nat) : SpecOK (β := β) inv Tryz.prog 17 (S17 N) := by
  refine spec_of lay_ok mixed (E := E17 N) (specs_loops (specs_cons (o13 N) (specs_cons (o71 N) specs_nil))) muts_nil gs_nil Tryz.func17 (by kernel_rfl) 0 (by kernel_rfl) trivial fun args K r h => ?_
  unfold S17 VS17 at h
  split at h
  · exact (e17_0 N _ _ _).trans h
  · cases h
def VS73 {β : Type} (N : Nat) (jq75 : (a0 : Int) → (k : Int → Option β) → Option β) : Rv.Spec β := fun args K => match args with
  | [.v (.one (.int .i64 a0))] => jq75 a0 (fun z1 => K (.v (.one (.int .i64 z1))))
  | _ => none
def S73 {β : Type} (N : Nat) : Rv.Spec β := VS73 N (j75 N)
def VE73 {β : Type} (N : Nat) : Env β := ⟨[], [], [], [], ⟨[], [], []⟩⟩
def E73 {β : Type} (N : Nat) : Env β := VE73 N
def jb75 {β : Type} (N : Nat) (a0 : Int) (k : Int → Option β) : Option β :=
(gd ((decide (0 ≤ a0)))
((gd ((decide (0 ≤ (shlI .u64 1 a0))))
(k ((w64 ((shlI .i64 1 (shlI .u64 1 a0)) - 1)))))))
theorem jt75 {β : Type} (N : Nat) (a0 : Int) (k : Int → Option β) : j75 N a0 k = jb75 N a0 k := by
  unfold j75 jb75
  rfl
theorem ve73_0 {β : Type} (N : Nat)  (a0 : Int) (K : TV → Option β) : evFn lay (VE73 N) Tryz.f73 [.v (.one (.int .i64 a0))] K = jb75 N a0 (fun z1 => K (.v (.one (.int .i64 z1)))) := by kernel_rfl
theorem e73_0 {β : Type} (N : Nat)  (a0 : Int) (K : TV → Option β) : evFn lay (E73 N) Tryz.f73 [.v (.one (.int .i64 a0))] K = j75 N a0 (fun z1 => K (.v (.one (.int .i64 z1)))) := (ve73_0 N a0 K).trans (jt75 N a0 (fun z1 => K (.v (.one (.int .i64 z1))))).symm
theorem o73 {β : Type} (N : Nat) : SpecOK (β := β) inv Tryz.prog 73 (S73 N) := by
  refine spec_of lay_ok mixed (E := E73 N) (specs_loops specs_nil) muts_nil gs_nil Tryz.func73 (by kernel_rfl) 0 (by kernel_rfl) trivial fun args K r h => ?_
  unfold S73 VS73 at h
  split at h
  · exact (e73_0 N _ _).trans h
  · cases h
def VS129 {β : Type} (N : Nat) (jq76 : (a0 : Int) → (a1 : Int) → (a2 : Int) → (k : Bool → Option β) → Option β) : Rv.Spec β := fun args K => match args with
  | [.v (.one (.int .i64 a0)), .v (.one (.int .i64 a1)), .v (.one (.int .i64 a2))] => jq76 a0 a1 a2 (fun z3 => K (.v (.one (.bool z3))))
  | _ => none
def S129 {β : Type} (N : Nat) : Rv.Spec β := VS129 N (j76 N)
def VE129 {β : Type} (N : Nat) (jq1 : (a0 : Int) → (a1 : Int) → (a2 : Int) → (k : Bool → Option β) → Option β) (jq75 : (a0 : Int) → (k : Int → Option β) → Option β) : Env β := ⟨[(62, VS62 N jq1), (73, VS73 N jq75)], [], [], [], ⟨[], [], []⟩⟩
def E129 {β : Type} (N : Nat) : Env β := VE129 N (j1 N) (j75 N)
def jb76 {β : Type} (N : Nat) (jq1 : (a0 : Int) → (a1 : Int) → (a2 : Int) → (k : Bool → Option β) → Option β) (jq75 : (a0 : Int) → (k : Int → Option β) → Option β) (a0 : Int) (a1 : Int) (a2 : Int) (k : Bool → Option β) : Option β :=
jq1 a0 0 4 fun r4 =>
(cond r4
(jq75 a0 fun r5 =>
jq1 a1 0 r5 fun r6 =>
(cond r6
(jq75 a0 fun r7 =>
jq1 a2 0 r7 fun r8 =>
k r8)
(k false)))
(k false))
theorem jt76 {β : Type} (N : Nat) (a0 : Int) (a1 : Int) (a2 : Int) (k : Bool → Option β) : j76 N a0 a1 a2 k = jb76 N (j1 N) (j75 N) a0 a1 a2 k := by
  unfold j76 jb76
  rfl
theorem ve129_0 {β : Type} (N : Nat) (jq1 : (a0 : Int) → (a1 : Int) → (a2 : Int) → (k : Bool → Option β) → Option β) (jq75 : (a0 : Int) → (k : Int → Option β) → Option β)  (a0 : Int) (a1 : Int) (a2 : Int) (K : TV → Option β) : evFn lay (VE129 N jq1 jq75) Tryz.f129 [.v (.one (.int .i64 a0)), .v (.one (.int .i64 a1)), .v (.one (.int .i64 a2))] K = jb76 N jq1 jq75 a0 a1 a2 (fun z3 => K (.v (.one (.bool z3)))) := by kernel_rfl
theorem e129_0 {β : Type} (N : Nat)  (a0 : Int) (a1 : Int) (a2 : Int) (K : TV → Option β) : evFn lay (E129 N) Tryz.f129 [.v (.one (.int .i64 a0)), .v (.one (.int .i64 a1)), .v (.one (.int .i64 a2))] K = j76 N a0 a1 a2 (fun z3 => K (.v (.one (.bool z3)))) := (ve129_0 N (j1 N) (j75 N) a0 a1 a2 K).trans (jt76 N a0 a1 a2 (fun z3 => K (.v (.one (.bool z3))))).symm
theorem o129 {β : Type} (N : Nat) : SpecOK (β := β) inv Tryz.prog 129 (S129 N) := by
  refine spec_of lay_ok mixed (E := E129 N) (specs_loops (specs_cons (o62 N) (specs_cons (o73 N) specs_nil))) muts_nil gs_nil Tryz.func129 (by kernel_rfl) 0 (by kernel_rfl) trivial fun args K r h => ?_
  unfold S129 VS129 at h
  split at h
  · exact (e129_0 N _ _ _ _).trans h
  · cases h
def VS130 {β : Type} (N : Nat) (jq81 : (a0 : Int) → (a1 : Int) → (a2 : Int) → (k : Int → Option β) → Option β) : Rv.Spec β := fun args K => match args with
  | [.v (.one (.int .i64 a0)), .v (.one (.int .i64 a1)), .v (.one (.int .i64 a2))] => jq81 a0 a1 a2 (fun z3 => K (.v (.one (.int .i64 z3))))
  | _ => none
def S130 {β : Type} (N : Nat) : Rv.Spec β := VS130 N (j81 N)
def h130_0_0  (v0 : Int) (v1 : Int) (v2 : Int) (v3 : Int) (v4 : Int) : St := ⟨.v (.one (.int .i64 v0)) :: .v (.one (.int .i64 v1)) :: .v (.one (.int .i64 v2)) :: tund :: tund :: tund :: tund :: .v (.one (.int .i64 v3)) :: .v (.one (.int .i64 v4)) :: tund :: tund :: tund :: tund :: tund :: tund :: tund :: tund :: tund :: tund :: tund :: tund :: tund :: tund :: tund :: tund :: tund :: tund :: tund :: tund :: tund :: tund :: tund :: tund :: tund :: tund :: tund :: tund :: tund :: tund :: [], []⟩
def x130_0_0_k0  (y0 : Int) : St := ⟨tund :: tund :: tund :: tund :: tund :: tund :: tund :: .v (.one (.int .i64 y0)) :: tund :: tund :: tund :: tund :: tund :: tund :: tund :: tund :: tund :: tund :: tund :: tund :: tund :: tund :: tund :: tund :: tund :: tund :: tund :: tund :: tund :: tund :: tund :: tund :: tund :: tund :: tund :: tund :: tund :: tund :: tund :: [], []⟩
def h130_1_0  (v0 : Int) (v1 : Int) (v2 : Int) (v3 : Int) (v4 : Int) (v5 : Int) : St := ⟨.v (.one (.int .i64 v0)) :: .v (.one (.int .i64 v1)) :: .v (.one (.int .i64 v2)) :: tund :: tund :: tund :: tund :: .v (.one (.int .i64 v3)) :: .v (.one (.int .i64 v4)) :: .v (.one (.int .i64 v5)) :: tund :: tund :: tund :: tund :: tund :: tund :: tund :: tund :: tund :: tund :: tund :: tund :: tund :: tund :: tund :: tund :: tund :: tund :: tund :: tund :: tund :: tund :: tund :: tund :: tund :: tund :: tund :: tund :: tund :: [], []⟩
def x130_1_0_k0  (y0 : Int) (y1 : Int) (y2 : Int) (y3 : Int) (y4 : Int) : St := ⟨.v (.one (.int .i64 y0)) :: .v (.one (.int .i64 y1)) :: .v (.one (.int .i64 y2)) :: tund :: tund :: tund :: tund :: .v (.one (.int .i64 y3)) :: .v (.one (.int .i64 y4)) :: tund :: tund :: tund :: tund :: tund :: tund :: tund :: tund :: tund :: tund :: tund :: tund :: tund :: tund :: tund :: tund :: tund :: tund :: tund :: tund :: tund :: tund :: tund :: tund :: tund :: tund :: tund :: tund :: tund :: tund :: [], []⟩
theorem fl130_0_0 (s : St) : refSt (h130_0_0 0 0 0 0 0) s = h130_0_0 (intS (oneA (vT (nx tund s.tmps 0)))) (intS (oneA (vT (nx tund s.tmps 1)))) (intS (oneA (vT (nx tund s.tmps 2)))) (intS (oneA (vT (nx tund s.tmps 7)))) (intS (oneA (vT (nx tund s.tmps 8)))) := by kernel_rfl
def VLS130_0 {β : Type} (N : Nat) (jq80 : Nat → Int → Int → Int → Int → Int → (Int → Option β) → Option β) : LSpec β := fun s K => cond (shpSt (h130_0_0 0 0 0 0 0) s) ((fun (v0 : Int) (v1 : Int) (v2 : Int) (v3 : Int) (v4 : Int) => jq80  N v0 v1 v2 v3 v4 (fun y0 => K (.exit 0) (x130_0_0_k0  y0))) (intS (oneA (vT (nx tund s.tmps 0)))) (intS (oneA (vT (nx tund s.tmps 1)))) (intS (oneA (vT (nx tund s.tmps 2)))) (intS (oneA (vT (nx tund s.tmps 7)))) (intS (oneA (vT (nx tund s.tmps 8))))) (none)
def LS130_0 {β : Type} (N : Nat) : LSpec β := VLS130_0 N (j80 N)
theorem fl130_1_0 (s : St) : refSt (h130_1_0 0 0 0 0 0 0) s = h130_1_0 (intS (oneA (vT (nx tund s.tmps 0)))) (intS (oneA (vT (nx tund s.tmps 1)))) (intS (oneA (vT (nx tund s.tmps 2)))) (intS (oneA (vT (nx tund s.tmps 7)))) (intS (oneA (vT (nx tund s.tmps 8)))) (intS (oneA (vT (nx tund s.tmps 9)))) := by kernel_rfl
def VLS130_2 {β : Type} (N : Nat) (jq78 : Nat → Int → Int → Int → Int → Int → Int → (Int → Int → Int → Int → Int → Option β) → Option β) : LSpec β := fun s K => cond (shpSt (h130_1_0 0 0 0 0 0 0) s) ((fun (v0 : Int) (v1 : Int) (v2 : Int) (v3 : Int) (v4 : Int) (v5 : Int) => jq78  N v0 v1 v2 v3 v4 v5 (fun y0 y1 y2 y3 y4 => K (.exit 2) (x130_1_0_k0  y0 y1 y2 y3 y4))) (intS (oneA (vT (nx tund s.tmps 0)))) (intS (oneA (vT (nx tund s.tmps 1)))) (intS (oneA (vT (nx tund s.tmps 2)))) (intS (oneA (vT (nx tund s.tmps 7)))) (intS (oneA (vT (nx tund s.tmps 8)))) (intS (oneA (vT (nx tund s.tmps 9))))) (none)
def LS130_2 {β : Type} (N : Nat) : LSpec β := VLS130_2 N (j78 N)
def VE130 {β : Type} (N : Nat) (jq80 : Nat → Int → Int → Int → Int → Int → (Int → Option β) → Option β) (jq78 : Nat → Int → Int → Int → Int → Int → Int → (Int → Int → Int → Int → Int → Option β) → Option β) : Env β := ⟨[], [], [(0, VLS130_0 N jq80), (2, VLS130_2 N jq78)], [], ⟨[], [], []⟩⟩
def E130 {β : Type} (N : Nat) : Env β := VE130 N (j80 N) (j78 N)
def jb79 {β : Type} (N : Nat) (jq78 : Nat → Int → Int → Int → Int → Int → Int → (Int → Int → Int → Int → Int → Option β) → Option β)  (v0 : Int) (v1 : Int) (v2 : Int) (v3 : Int) (v4 : Int) (rec_ : Int → Int → Int → Int → Int → Option β) (k0 : Int → Option β) : Option β :=
(gd ((decide (0 ≤ v0)))
((cond ((decide (v4 < (shlI .i64 1 v0))))
(jq78  N v0 v1 v2 v3 v4 0 (fun e4_0 e4_1 e4_2 e4_3 e4_4 =>
rec_ e4_0 e4_1 e4_2 e4_3 ((w64 (e4_4 + 1)))))
(k0 v3))))
theorem jt79 {β : Type} (N : Nat)  (v0 : Int) (v1 : Int) (v2 : Int) (v3 : Int) (v4 : Int) (rec_ : Int → Int → Int → Int → Int → Option β) (k0 : Int → Option β) : j79 N v0 v1 v2 v3 v4 rec_ k0 = jb79 N (j78 N) v0 v1 v2 v3 v4 rec_ k0 := by
  unfold j79 jb79
  rfl
theorem vst130_0_0 {β : Type} (N : Nat) (jq80 : Nat → Int → Int → Int → Int → Int → (Int → Option β) → Option β) (jq78 : Nat → Int → Int → Int → Int → Int → Int → (Int → Int → Int → Int → Int → Option β) → Option β)  (v0 : Int) (v1 : Int) (v2 : Int) (v3 : Int) (v4 : Int) (rec_ : St → Option β) (K : Exit → St → Option β) :
    ev lay (VE130 N jq80 jq78) (retMask Tryz.f130) (lp Tryz.f130 0).body (lp Tryz.f130 0).ex ((lp Tryz.f130 0).lv (retMask Tryz.f130)) (h130_0_0  v0 v1 v2 v3 v4) (nextR (fun s' => rec_ (s'.tidy ((lp Tryz.f130 0).lv (retMask Tryz.f130)))) K) = jb79 N jq78  v0 v1 v2 v3 v4 (fun v0 v1 v2 v3 v4 => rec_ (h130_0_0  v0 v1 v2 v3 v4)) (fun y0 => K (.exit 0) (x130_0_0_k0  y0)) := by kernel_rfl
theorem st130_0_0 {β : Type} (N : Nat)  (v0 : Int) (v1 : Int) (v2 : Int) (v3 : Int) (v4 : Int) (rec_ : St → Option β) (K : Exit → St → Option β) :
    ev lay (E130 N) (retMask Tryz.f130) (lp Tryz.f130 0).body (lp Tryz.f130 0).ex ((lp Tryz.f130 0).lv (retMask Tryz.f130)) (h130_0_0  v0 v1 v2 v3 v4) (nextR (fun s' => rec_ (s'.tidy ((lp Tryz.f130 0).lv (retMask Tryz.f130)))) K) = j79 N  v0 v1 v2 v3 v4 (fun v0 v1 v2 v3 v4 => rec_ (h130_0_0  v0 v1 v2 v3 v4)) (fun y0 => K (.exit 0) (x130_0_0_k0  y0)) := (vst130_0_0 N (j80 N) (j78 N) v0 v1 v2 v3 v4 rec_ K).trans (jt79 N  v0 v1 v2 v3 v4 (fun v0 v1 v2 v3 v4 => rec_ (h130_0_0  v0 v1 v2 v3 v4)) (fun y0 => K (.exit 0) (x130_0_0_k0  y0))).symm
theorem ro130_0_0 {β : Type} (N : Nat)  (K : Exit → St → Option β) : ∀ (F : Nat) (v0 : Int) (v1 : Int) (v2 : Int) (v3 : Int) (v4 : Int), (lp Tryz.f130 0).rounds lay (E130 N) (retMask Tryz.f130) F (h130_0_0  v0 v1 v2 v3 v4) K = j80 N  F v0 v1 v2 v3 v4 (fun y0 => K (.exit 0) (x130_0_0_k0  y0)) := by
  intro F
  induction F with
  | zero => intros; rfl
  | succ F ih =>
    intros
    rw [rounds_next]
    refine (st130_0_0 N  _ _ _ _ _ (fun s => (lp Tryz.f130 0).rounds lay (E130 N) (retMask Tryz.f130) F s K) K).trans ?_
    simp only [ih]
    rfl
theorem lk130_0 {β : Type} (N : Nat) : lookL (E130 (β := β) N).loops (lp Tryz.f130 0).id = LS130_0 N := by kernel_rfl
theorem rk130_0 {β : Type} (N : Nat) : RoundsOK lay (E130 (β := β) N) (retMask Tryz.f130) (lp Tryz.f130 0) := by
  intro s K r h
  rw [lk130_0] at h
  unfold LS130_0 VLS130_0 at h
  cases hb : shpSt (h130_0_0 0 0 0 0 0) s with
  | true =>
    rw [hb, cond_true] at h
    exact ⟨N, by rw [← shpSt_ref hb, fl130_0_0 s]; exact (ro130_0_0 N  K N (intS (oneA (vT (nx tund s.tmps 0)))) (intS (oneA (vT (nx tund s.tmps 1)))) (intS (oneA (vT (nx tund s.tmps 2)))) (intS (oneA (vT (nx tund s.tmps 7)))) (intS (oneA (vT (nx tund s.tmps 8))))).trans h⟩
  | false =>
  rw [hb, cond_false] at h
  clear hb
  cases h
def jb77 {β : Type} (N : Nat)  (v0 : Int) (v1 : Int) (v2 : Int) (v3 : Int) (v4 : Int) (v5 : Int) (rec_ : Int → Int → Int → Int → Int → Int → Option β) (k0 : Int → Int → Int → Int → Int → Option β) : Option β :=
(cond ((decide (v5 < v0)))
((gd ((decide (0 ≤ v4)))
((cond (((bits .and .i64 (shrI .i64 v1 v4) 1) == 1))
((gd ((decide (0 ≤ v5)))
((gd ((decide (0 ≤ (bits .xor .i64 v4 (shlI .i64 1 v5)))))
((cond (((bits .and .i64 (shrI .i64 v2 (bits .xor .i64 v4 (shlI .i64 1 v5))) 1) == 1))
(rec_ v0 v1 v2 ((w64 (v3 + 1))) v4 ((w64 (v5 + 1))))
(rec_ v0 v1 v2 v3 v4 ((w64 (v5 + 1))))))))))
(rec_ v0 v1 v2 v3 v4 ((w64 (v5 + 1))))))))
(k0 v0 v1 v2 v3 v4))
theorem jt77 {β : Type} (N : Nat)  (v0 : Int) (v1 : Int) (v2 : Int) (v3 : Int) (v4 : Int) (v5 : Int) (rec_ : Int → Int → Int → Int → Int → Int → Option β) (k0 : Int → Int → Int → Int → Int → Option β) : j77 N v0 v1 v2 v3 v4 v5 rec_ k0 = jb77 N v0 v1 v2 v3 v4 v5 rec_ k0 := by
  unfold j77 jb77
  rfl
theorem vst130_1_0 {β : Type} (N : Nat) (jq80 : Nat → Int → Int → Int → Int → Int → (Int → Option β) → Option β) (jq78 : Nat → Int → Int → Int → Int → Int → Int → (Int → Int → Int → Int → Int → Option β) → Option β)  (v0 : Int) (v1 : Int) (v2 : Int) (v3 : Int) (v4 : Int) (v5 : Int) (rec_ : St → Option β) (K : Exit → St → Option β) :
    ev lay (VE130 N jq80 jq78) (retMask Tryz.f130) (lp Tryz.f130 1).body (lp Tryz.f130 1).ex ((lp Tryz.f130 1).lv (retMask Tryz.f130)) (h130_1_0  v0 v1 v2 v3 v4 v5) (nextR (fun s' => rec_ (s'.tidy ((lp Tryz.f130 1).lv (retMask Tryz.f130)))) K) = jb77 N  v0 v1 v2 v3 v4 v5 (fun v0 v1 v2 v3 v4 v5 => rec_ (h130_1_0  v0 v1 v2 v3 v4 v5)) (fun y0 y1 y2 y3 y4 => K (.exit 2) (x130_1_0_k0  y0 y1 y2 y3 y4)) := by kernel_rfl
theorem st130_1_0 {β : Type} (N : Nat)  (v0 : Int) (v1 : Int) (v2 : Int) (v3 : Int) (v4 : Int) (v5 : Int) (rec_ : St → Option β) (K : Exit → St → Option β) :
    ev lay (E130 N) (retMask Tryz.f130) (lp Tryz.f130 1).body (lp Tryz.f130 1).ex ((lp Tryz.f130 1).lv (retMask Tryz.f130)) (h130_1_0  v0 v1 v2 v3 v4 v5) (nextR (fun s' => rec_ (s'.tidy ((lp Tryz.f130 1).lv (retMask Tryz.f130)))) K) = j77 N  v0 v1 v2 v3 v4 v5 (fun v0 v1 v2 v3 v4 v5 => rec_ (h130_1_0  v0 v1 v2 v3 v4 v5)) (fun y0 y1 y2 y3 y4 => K (.exit 2) (x130_1_0_k0  y0 y1 y2 y3 y4)) := (vst130_1_0 N (j80 N) (j78 N) v0 v1 v2 v3 v4 v5 rec_ K).trans (jt77 N  v0 v1 v2 v3 v4 v5 (fun v0 v1 v2 v3 v4 v5 => rec_ (h130_1_0  v0 v1 v2 v3 v4 v5)) (fun y0 y1 y2 y3 y4 => K (.exit 2) (x130_1_0_k0  y0 y1 y2 y3 y4))).symm
theorem ro130_1_0 {β : Type} (N : Nat)  (K : Exit → St → Option β) : ∀ (F : Nat) (v0 : Int) (v1 : Int) (v2 : Int) (v3 : Int) (v4 : Int) (v5 : Int), (lp Tryz.f130 1).rounds lay (E130 N) (retMask Tryz.f130) F (h130_1_0  v0 v1 v2 v3 v4 v5) K = j78 N  F v0 v1 v2 v3 v4 v5 (fun y0 y1 y2 y3 y4 => K (.exit 2) (x130_1_0_k0  y0 y1 y2 y3 y4)) := by
  intro F
  induction F with
  | zero => intros; rfl
  | succ F ih =>
    intros
    rw [rounds_next]
    refine (st130_1_0 N  _ _ _ _ _ _ (fun s => (lp Tryz.f130 1).rounds lay (E130 N) (retMask Tryz.f130) F s K) K).trans ?_
    simp only [ih]
    rfl
theorem lk130_2 {β : Type} (N : Nat) : lookL (E130 (β := β) N).loops (lp Tryz.f130 1).id = LS130_2 N := by kernel_rfl
theorem rk130_2 {β : Type} (N : Nat) : RoundsOK lay (E130 (β := β) N) (retMask Tryz.f130) (lp Tryz.f130 1) := by
  intro s K r h
  rw [lk130_2] at h
  unfold LS130_2 VLS130_2 at h
  cases hb : shpSt (h130_1_0 0 0 0 0 0 0) s with
  | true =>
    rw [hb, cond_true] at h
    exact ⟨N, by rw [← shpSt_ref hb, fl130_1_0 s]; exact (ro130_1_0 N  K N (intS (oneA (vT (nx tund s.tmps 0)))) (intS (oneA (vT (nx tund s.tmps 1)))) (intS (oneA (vT (nx tund s.tmps 2)))) (intS (oneA (vT (nx tund s.tmps 7)))) (intS (oneA (vT (nx tund s.tmps 8)))) (intS (oneA (vT (nx tund s.tmps 9))))).trans h⟩
  | false =>
  rw [hb, cond_false] at h
  clear hb
  cases h
def jb81 {β : Type} (N : Nat) (jq80 : Nat → Int → Int → Int → Int → Int → (Int → Option β) → Option β) (a0 : Int) (a1 : Int) (a2 : Int) (k : Int → Option β) : Option β :=
jq80  N a0 a1 a2 0 0 (fun e5_0 =>
k e5_0)
theorem jt81 {β : Type} (N : Nat) (a0 : Int) (a1 : Int) (a2 : Int) (k : Int → Option β) : j81 N a0 a1 a2 k = jb81 N (j80 N) a0 a1 a2 k := by
  unfold j81 jb81
  rfl
theorem ve130_0 {β : Type} (N : Nat) (jq80 : Nat → Int → Int → Int → Int → Int → (Int → Option β) → Option β) (jq78 : Nat → Int → Int → Int → Int → Int → Int → (Int → Int → Int → Int → Int → Option β) → Option β)  (a0 : Int) (a1 : Int) (a2 : Int) (K : TV → Option β) : evFn lay (VE130 N jq80 jq78) Tryz.f130 [.v (.one (.int .i64 a0)), .v (.one (.int .i64 a1)), .v (.one (.int .i64 a2))] K = jb81 N jq80 a0 a1 a2 (fun z3 => K (.v (.one (.int .i64 z3)))) := by kernel_rfl
theorem e130_0 {β : Type} (N : Nat)  (a0 : Int) (a1 : Int) (a2 : Int) (K : TV → Option β) : evFn lay (E130 N) Tryz.f130 [.v (.one (.int .i64 a0)), .v (.one (.int .i64 a1)), .v (.one (.int .i64 a2))] K = j81 N a0 a1 a2 (fun z3 => K (.v (.one (.int .i64 z3)))) := (ve130_0 N (j80 N) (j78 N) a0 a1 a2 K).trans (jt81 N a0 a1 a2 (fun z3 => K (.v (.one (.int .i64 z3))))).symm
theorem o130 {β : Type} (N : Nat) : SpecOK (β := β) inv Tryz.prog 130 (S130 N) := by
  refine spec_of lay_ok mixed (E := E130 N) (specs_loops specs_nil) muts_nil gs_nil Tryz.func130 (by kernel_rfl) 2 (by kernel_rfl) ⟨⟨trivial, rk130_0 N⟩, rk130_2 N⟩ fun args K r h => ?_
  unfold S130 VS130 at h
  split at h
  · exact (e130_0 N _ _ _ _).trans h
  · cases h
def VS72 {β : Type} (N : Nat) (jq82 : (a0 : Int) → (a1 : Int) → (a2 : Int) → (k : Int → Option β) → Option β) : Rv.Spec β := fun args K => match args with
  | [.v (.one (.int .i64 a0)), .v (.one (.int .i64 a1)), .v (.one (.int .i64 a2))] => jq82 a0 a1 a2 (fun z3 => K (.v (.one (.int .i64 z3))))
  | _ => none
def S72 {β : Type} (N : Nat) : Rv.Spec β := VS72 N (j82 N)
def VE72 {β : Type} (N : Nat) (jq76 : (a0 : Int) → (a1 : Int) → (a2 : Int) → (k : Bool → Option β) → Option β) (jq27 : (a0 : Int) → (k : Int → Option β) → Option β) (jq81 : (a0 : Int) → (a1 : Int) → (a2 : Int) → (k : Int → Option β) → Option β) : Env β := ⟨[(129, VS129 N jq76), (33, VS33 N jq27), (130, VS130 N jq81)], [], [], [], ⟨[], [], []⟩⟩
def E72 {β : Type} (N : Nat) : Env β := VE72 N (j76 N) (j27 N) (j81 N)
def jb82 {β : Type} (N : Nat) (jq76 : (a0 : Int) → (a1 : Int) → (a2 : Int) → (k : Bool → Option β) → Option β) (jq27 : (a0 : Int) → (k : Int → Option β) → Option β) (jq81 : (a0 : Int) → (a1 : Int) → (a2 : Int) → (k : Int → Option β) → Option β) (a0 : Int) (a1 : Int) (a2 : Int) (k : Int → Option β) : Option β :=
jq76 a0 a1 a2 fun r4 =>
(cond (!r4)
(k (-1))
(jq27 a1 fun r5 =>
jq27 a2 fun r6 =>
(cond (((w64 (r5 * r6)) == 0))
(k 0)
(jq81 a0 a1 a2 fun r7 =>
(gd (((w64 (r5 * r6)) != 0))
(k ((quoI .i64 (w64 ((w64 ((w64 (r7 * r7)) + (w64 (r5 * r6)))) - 1)) (w64 (r5 * r6))))))))))
theorem jt82 {β : Type} (N : Nat) (a0 : Int) (a1 : Int) (a2 : Int) (k : Int → Option β) : j82 N a0 a1 a2 k = jb82 N (j76 N) (j27 N) (j81 N) a0 a1 a2 k := by
  unfold j82 jb82
  rfl
theorem ve72_0 {β : Type} (N : Nat) (jq76 : (a0 : Int) → (a1 : Int) → (a2 : Int) → (k : Bool → Option β) → Option β) (jq27 : (a0 : Int) → (k : Int → Option β) → Option β) (jq81 : (a0 : Int) → (a1 : Int) → (a2 : Int) → (k : Int → Option β) → Option β)  (a0 : Int) (a1 : Int) (a2 : Int) (K : TV → Option β) : evFn lay (VE72 N jq76 jq27 jq81) Tryz.f72 [.v (.one (.int .i64 a0)), .v (.one (.int .i64 a1)), .v (.one (.int .i64 a2))] K = jb82 N jq76 jq27 jq81 a0 a1 a2 (fun z3 => K (.v (.one (.int .i64 z3)))) := by kernel_rfl
theorem e72_0 {β : Type} (N : Nat)  (a0 : Int) (a1 : Int) (a2 : Int) (K : TV → Option β) : evFn lay (E72 N) Tryz.f72 [.v (.one (.int .i64 a0)), .v (.one (.int .i64 a1)), .v (.one (.int .i64 a2))] K = j82 N a0 a1 a2 (fun z3 => K (.v (.one (.int .i64 z3)))) := (ve72_0 N (j76 N) (j27 N) (j81 N) a0 a1 a2 K).trans (jt82 N a0 a1 a2 (fun z3 => K (.v (.one (.int .i64 z3))))).symm
theorem o72 {β : Type} (N : Nat) : SpecOK (β := β) inv Tryz.prog 72 (S72 N) := by
  refine spec_of lay_ok mixed (E := E72 N) (specs_loops (specs_cons (o129 N) (specs_cons (o33 N) (specs_cons (o130 N) specs_nil)))) muts_nil gs_nil Tryz.func72 (by kernel_rfl) 0 (by kernel_rfl) trivial fun args K r h => ?_
  unfold S72 VS72 at h
  split at h
  · exact (e72_0 N _ _ _ _).trans h
  · cases h
def VS18 {β : Type} (N : Nat) (jq83 : (a0 : Int) → (a1 : Int) → (k : Int → Option β) → Option β) : Rv.Spec β := fun args K => match args with
  | [.v (.agg [.int .i64 a0, .int .i64 a1])] => jq83 a0 a1 (fun z2 => K (.v (.one (.int .i64 z2))))
  | _ => none
def S18 {β : Type} (N : Nat) : Rv.Spec β := VS18 N (j83 N)
def VE18 {β : Type} (N : Nat) (jq2 : (a0 : Int) → (a1 : Int) → (k : Bool → Option β) → Option β) (jq75 : (a0 : Int) → (k : Int → Option β) → Option β) (jq82 : (a0 : Int) → (a1 : Int) → (a2 : Int) → (k : Int → Option β) → Option β) : Env β := ⟨[(13, VS13 N jq2), (73, VS73 N jq75), (72, VS72 N jq82)], [], [], [], ⟨[], [], []⟩⟩
def E18 {β : Type} (N : Nat) : Env β := VE18 N (j2 N) (j75 N) (j82 N)
def jb83 {β : Type} (N : Nat) (jq2 : (a0 : Int) → (a1 : Int) → (k : Bool → Option β) → Option β) (jq75 : (a0 : Int) → (k : Int → Option β) → Option β) (jq82 : (a0 : Int) → (a1 : Int) → (a2 : Int) → (k : Int → Option β) → Option β) (a0 : Int) (a1 : Int) (k : Int → Option β) : Option β :=
jq2 a0 a1 fun r3 =>
(cond (!r3)
(k (-1))
((cond ((decide (a0 > 4)))
(k (-1))
(jq75 a0 fun r4 =>
jq82 a0 a1 ((w64 (r4 - a1))) fun r5 =>
k r5))))
theorem jt83 {β : Type} (N : Nat) (a0 : Int) (a1 : Int) (k : Int → Option β) : j83 N a0 a1 k = jb83 N (j2 N) (j75 N) (j82 N) a0 a1 k := by
  unfold j83 jb83
  rfl
theorem ve18_0 {β : Type} (N : Nat) (jq2 : (a0 : Int) → (a1 : Int) → (k : Bool → Option β) → Option β) (jq75 : (a0 : Int) → (k : Int → Option β) → Option β) (jq82 : (a0 : Int) → (a1 : Int) → (a2 : Int) → (k : Int → Option β) → Option β)  (a0 : Int) (a1 : Int) (K : TV → Option β) : evFn lay (VE18 N jq2 jq75 jq82) Tryz.f18 [.v (.agg [.int .i64 a0, .int .i64 a1])] K = jb83 N jq2 jq75 jq82 a0 a1 (fun z2 => K (.v (.one (.int .i64 z2)))) := by kernel_rfl
theorem e18_0 {β : Type} (N : Nat)  (a0 : Int) (a1 : Int) (K : TV → Option β) : evFn lay (E18 N) Tryz.f18 [.v (.agg [.int .i64 a0, .int .i64 a1])] K = j83 N a0 a1 (fun z2 => K (.v (.one (.int .i64 z2)))) := (ve18_0 N (j2 N) (j75 N) (j82 N) a0 a1 K).trans (jt83 N a0 a1 (fun z2 => K (.v (.one (.int .i64 z2))))).symm
theorem o18 {β : Type} (N : Nat) : SpecOK (β := β) inv Tryz.prog 18 (S18 N) := by
  refine spec_of lay_ok mixed (E := E18 N) (specs_loops (specs_cons (o13 N) (specs_cons (o73 N) (specs_cons (o72 N) specs_nil)))) muts_nil gs_nil Tryz.func18 (by kernel_rfl) 0 (by kernel_rfl) trivial fun args K r h => ?_
  unfold S18 VS18 at h
  split at h
  · exact (e18_0 N _ _ _).trans h
  · cases h
def VS20 {β : Type} (N : Nat) (jq84 : (a0 : Int) → (a1 : Int) → (k : Bool → Option β) → Option β) : Rv.Spec β := fun args K => match args with
  | [.v (.agg [.int .i64 a0, .int .i64 a1])] => jq84 a0 a1 (fun z2 => K (.v (.one (.bool z2))))
  | _ => none
def S20 {β : Type} (N : Nat) : Rv.Spec β := VS20 N (j84 N)
def VE20 {β : Type} (N : Nat) (jq2 : (a0 : Int) → (a1 : Int) → (k : Bool → Option β) → Option β) (jq41 : Nat → Int → Int → Int → Int → (Int → Option β) → Option β) : Env β := ⟨[(13, VS13 N jq2), (74, VS74 N jq41)], [], [], [], ⟨[], [], []⟩⟩
def E20 {β : Type} (N : Nat) : Env β := VE20 N (j2 N) (j41 N)
def jb84 {β : Type} (N : Nat) (jq2 : (a0 : Int) → (a1 : Int) → (k : Bool → Option β) → Option β) (jq41 : Nat → Int → Int → Int → Int → (Int → Option β) → Option β) (a0 : Int) (a1 : Int) (k : Bool → Option β) : Option β :=
jq2 a0 a1 fun r3 =>
(cond r3
((cond ((decide (a0 ≤ 4)))
(jq41 N a0 a1 0 0 fun r4 =>
k ((r4 == a0)))
(k false)))
(k false))
theorem jt84 {β : Type} (N : Nat) (a0 : Int) (a1 : Int) (k : Bool → Option β) : j84 N a0 a1 k = jb84 N (j2 N) (j41 N) a0 a1 k := by
  unfold j84 jb84
  rfl
theorem ve20_0 {β : Type} (N : Nat) (jq2 : (a0 : Int) → (a1 : Int) → (k : Bool → Option β) → Option β) (jq41 : Nat → Int → Int → Int → Int → (Int → Option β) → Option β)  (a0 : Int) (a1 : Int) (K : TV → Option β) : evFn lay (VE20 N jq2 jq41) Tryz.f20 [.v (.agg [.int .i64 a0, .int .i64 a1])] K = jb84 N jq2 jq41 a0 a1 (fun z2 => K (.v (.one (.bool z2)))) := by kernel_rfl
theorem e20_0 {β : Type} (N : Nat)  (a0 : Int) (a1 : Int) (K : TV → Option β) : evFn lay (E20 N) Tryz.f20 [.v (.agg [.int .i64 a0, .int .i64 a1])] K = j84 N a0 a1 (fun z2 => K (.v (.one (.bool z2)))) := (ve20_0 N (j2 N) (j41 N) a0 a1 K).trans (jt84 N a0 a1 (fun z2 => K (.v (.one (.bool z2))))).symm
theorem o20 {β : Type} (N : Nat) : SpecOK (β := β) inv Tryz.prog 20 (S20 N) := by
  refine spec_of lay_ok mixed (E := E20 N) (specs_loops (specs_cons (o13 N) (specs_cons (o74 N) specs_nil))) muts_nil gs_nil Tryz.func20 (by kernel_rfl) 0 (by kernel_rfl) trivial fun args K r h => ?_
  unfold S20 VS20 at h
  split at h
  · exact (e20_0 N _ _ _).trans h
  · cases h
def VS19 {β : Type} (N : Nat) (jq85 : (a0 : Bool) → (a1 : ByteArray) → (k : ByteArray → Option β) → Option β) : Rv.Spec β := fun args K => match args with
  | [.v (.one (.bool a0)), .v (.one (.str a1))] => jq85 a0 a1 (fun z2 => K (.v (.one (.str z2))))
  | _ => none
def S19 {β : Type} (N : Nat) : Rv.Spec β := VS19 N (j85 N)
def VE19 {β : Type} (N : Nat) : Env β := ⟨[], [], [], [], ⟨[], [], []⟩⟩
def E19 {β : Type} (N : Nat) : Env β := VE19 N
def jb85 {β : Type} (N : Nat) (a0 : Bool) (a1 : ByteArray) (k : ByteArray → Option β) : Option β :=
(cond a0
(k a1)
(k ByteArray.empty))
theorem jt85 {β : Type} (N : Nat) (a0 : Bool) (a1 : ByteArray) (k : ByteArray → Option β) : j85 N a0 a1 k = jb85 N a0 a1 k := by
  unfold j85 jb85
  rfl
theorem ve19_0 {β : Type} (N : Nat)  (a0 : Bool) (a1 : ByteArray) (K : TV → Option β) : evFn lay (VE19 N) Tryz.f19 [.v (.one (.bool a0)), .v (.one (.str a1))] K = jb85 N a0 a1 (fun z2 => K (.v (.one (.str z2)))) := by kernel_rfl
theorem e19_0 {β : Type} (N : Nat)  (a0 : Bool) (a1 : ByteArray) (K : TV → Option β) : evFn lay (E19 N) Tryz.f19 [.v (.one (.bool a0)), .v (.one (.str a1))] K = j85 N a0 a1 (fun z2 => K (.v (.one (.str z2)))) := (ve19_0 N a0 a1 K).trans (jt85 N a0 a1 (fun z2 => K (.v (.one (.str z2))))).symm
theorem o19 {β : Type} (N : Nat) : SpecOK (β := β) inv Tryz.prog 19 (S19 N) := by
  refine spec_of lay_ok mixed (E := E19 N) (specs_loops specs_nil) muts_nil gs_nil Tryz.func19 (by kernel_rfl) 0 (by kernel_rfl) trivial fun args K r h => ?_
  unfold S19 VS19 at h
  split at h
  · exact (e19_0 N _ _ _).trans h
  · cases h
end Go.Proofs.YtignjkbhdaiegaaGreatDoor
