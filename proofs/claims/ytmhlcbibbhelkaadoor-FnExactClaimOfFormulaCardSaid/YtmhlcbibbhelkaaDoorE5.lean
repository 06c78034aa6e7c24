/- The functions that the claims reach answer as their texts do. -/
import Derived.Test.YtmhlcbibbhelkaaDoorE4
namespace Go.Proofs.YtmhlcbibbhelkaaDoor
open Go.Rv
set_option maxRecDepth 100000
set_option maxHeartbeats 2000000
set_option linter.unusedVariables false
variable {β : Type}
def VS12 (N : Nat) (zq49 : (a0 : Int) → (a1 : Int) → (k : ByteArray → Bool → O β) → O β) : Rv.Spec β := fun args K => match args with
  | [.v (.agg [.int .i64 a0, .int .i64 a1])] => zq49 a0 a1 (fun z2 z3 => K (.tup [.one (.str z2), .one (.bool z3)]))
  | _ => none
def S12 (N : Nat) : Rv.Spec β := VS12 N (zj49 N)
def VE12 (N : Nat) (zq33 : (a0 : Int) → (a1 : Int) → (a2 : Int) → (k : Bool → O β) → O β) (zq47 : Nat → Int → Int → List Int → (ByteArray → O β) → O β) : Env β := ⟨[(21, VS21 N zq33), (23, S23 N), (22, VS22 N zq47)], [], [], [], ⟨[], [], [], []⟩⟩
def E12 (N : Nat) : Env β := VE12 N (zj33 N) (zj47 N)
def zb49 (N : Nat) (zq33 : (a0 : Int) → (a1 : Int) → (a2 : Int) → (k : Bool → O β) → O β) (zq47 : Nat → Int → Int → List Int → (ByteArray → O β) → O β) (a0 : Int) (a1 : Int) (k : ByteArray → Bool → O β) : O β :=
zq33 a0 a1 3 fun r4 =>
(cond (!r4)
(k ByteArray.empty false)
(impl_sizes N a0 fun r5 =>
zq47 N a0 a1 r5 fun r6 =>
k r6 true))
theorem zt49 (N : Nat) (a0 : Int) (a1 : Int) (k : ByteArray → Bool → O β) : zj49 N a0 a1 k = zb49 N (zj33 N) (zj47 N) a0 a1 k := by
  unfold zj49 zb49
  rfl
theorem ve12_0 (N : Nat) (zq33 : (a0 : Int) → (a1 : Int) → (a2 : Int) → (k : Bool → O β) → O β) (zq47 : Nat → Int → Int → List Int → (ByteArray → O β) → O β)  (a0 : Int) (a1 : Int) (K : TV → O β) : evFn lay (VE12 N zq33 zq47) Tryd.f12 [.v (.agg [.int .i64 a0, .int .i64 a1])] K = zb49 N zq33 zq47 a0 a1 (fun z2 z3 => K (.tup [.one (.str z2), .one (.bool z3)])) := by kernel_rfl
theorem e12_0 (N : Nat)  (a0 : Int) (a1 : Int) (K : TV → O β) : evFn lay (E12 N) Tryd.f12 [.v (.agg [.int .i64 a0, .int .i64 a1])] K = zj49 N a0 a1 (fun z2 z3 => K (.tup [.one (.str z2), .one (.bool z3)])) := (ve12_0 N (zj33 N) (zj47 N) a0 a1 K).trans (zt49 N a0 a1 (fun z2 z3 => K (.tup [.one (.str z2), .one (.bool z3)]))).symm
theorem o12 (N : Nat) : SpecOK (β := β) inv Tryd.prog 12 (S12 N) := by
  refine spec_of lay_ok mixed (E := E12 N) (specs_loops (specs_cons (o21 N) (specs_cons (o23 N) (specs_cons (o22 N) specs_nil)))) muts_nil gs_nil Tryd.func12 (by kernel_rfl) 0 (by kernel_rfl) trivial fun args K r h => ?_
  unfold S12 VS12 at h
  split at h
  · exact (e12_0 N _ _ _).trans h
  · cases h
def VS13 (N : Nat) (zq50 : (a0 : Int) → (a1 : Int) → (k : Int → O β) → O β) : Rv.Spec β := fun args K => match args with
  | [.v (.agg [.int .i64 a0, .int .i64 a1])] => zq50 a0 a1 (fun z2 => K (.v (.one (.int .i64 z2))))
  | _ => none
def S13 (N : Nat) : Rv.Spec β := VS13 N (zj50 N)
def VE13 (N : Nat) (zq33 : (a0 : Int) → (a1 : Int) → (a2 : Int) → (k : Bool → O β) → O β) : Env β := ⟨[(21, VS21 N zq33), (23, S23 N)], [], [], [], ⟨[], [], [], []⟩⟩
def E13 (N : Nat) : Env β := VE13 N (zj33 N)
def zb50 (N : Nat) (zq33 : (a0 : Int) → (a1 : Int) → (a2 : Int) → (k : Bool → O β) → O β) (a0 : Int) (a1 : Int) (k : Int → O β) : O β :=
zq33 a0 a1 3 fun r3 =>
(cond (!r3)
(k (-1))
(impl_sizes N a0 fun r4 =>
(gd ((decide (0 ≤ a1)))
((gd ((decide (a1 < (r4.length : Int))))
(k ((rd 0 r4 a1))))))))
theorem zt50 (N : Nat) (a0 : Int) (a1 : Int) (k : Int → O β) : zj50 N a0 a1 k = zb50 N (zj33 N) a0 a1 k := by
  unfold zj50 zb50
  rfl
theorem ve13_0 (N : Nat) (zq33 : (a0 : Int) → (a1 : Int) → (a2 : Int) → (k : Bool → O β) → O β)  (a0 : Int) (a1 : Int) (K : TV → O β) : evFn lay (VE13 N zq33) Tryd.f13 [.v (.agg [.int .i64 a0, .int .i64 a1])] K = zb50 N zq33 a0 a1 (fun z2 => K (.v (.one (.int .i64 z2)))) := by kernel_rfl
theorem e13_0 (N : Nat)  (a0 : Int) (a1 : Int) (K : TV → O β) : evFn lay (E13 N) Tryd.f13 [.v (.agg [.int .i64 a0, .int .i64 a1])] K = zj50 N a0 a1 (fun z2 => K (.v (.one (.int .i64 z2)))) := (ve13_0 N (zj33 N) a0 a1 K).trans (zt50 N a0 a1 (fun z2 => K (.v (.one (.int .i64 z2))))).symm
theorem o13 (N : Nat) : SpecOK (β := β) inv Tryd.prog 13 (S13 N) := by
  refine spec_of lay_ok mixed (E := E13 N) (specs_loops (specs_cons (o21 N) (specs_cons (o23 N) specs_nil))) muts_nil gs_nil Tryd.func13 (by kernel_rfl) 0 (by kernel_rfl) trivial fun args K r h => ?_
  unfold S13 VS13 at h
  split at h
  · exact (e13_0 N _ _ _).trans h
  · cases h
def VS6 (N : Nat) (zq51 : (a0 : Int) → (a1 : Int) → (k : Int → Int → Int → Int → Int → ByteArray → List Int → Bool → O β) → O β) : Rv.Spec β := fun args K => match args with
  | [.v (.agg [.int .i64 a0, .int .i64 a1])] => zq51 a0 a1 (fun z2 z3 z4 z5 z6 z7 z8 z9 => K (.tup [.agg [.int .i64 z2, .int .i64 z3, .int .i64 z4, .int .i64 z5, .int .i64 z6, .str z7, .sl 3 (.ints .i64 z8)], .one (.bool z9)]))
  | _ => none
def S6 (N : Nat) : Rv.Spec β := VS6 N (zj51 N)
def VE6 (N : Nat) (zq49 : (a0 : Int) → (a1 : Int) → (k : ByteArray → Bool → O β) → O β) (zq50 : (a0 : Int) → (a1 : Int) → (k : Int → O β) → O β) : Env β := ⟨[(12, VS12 N zq49), (13, VS13 N zq50)], [], [], [], ⟨[], [], [], []⟩⟩
def E6 (N : Nat) : Env β := VE6 N (zj49 N) (zj50 N)
def zb51 (N : Nat) (zq49 : (a0 : Int) → (a1 : Int) → (k : ByteArray → Bool → O β) → O β) (zq50 : (a0 : Int) → (a1 : Int) → (k : Int → O β) → O β) (a0 : Int) (a1 : Int) (k : Int → Int → Int → Int → Int → ByteArray → List Int → Bool → O β) : O β :=
zq49 a0 a1 fun r10 r11 =>
(cond (!r11)
(k 0 0 0 0 0 ByteArray.empty (([] : List Int)) false)
(zq50 a0 a1 fun r12 =>
k 4 a0 a1 r12 0 r10 (([] : List Int)) true))
theorem zt51 (N : Nat) (a0 : Int) (a1 : Int) (k : Int → Int → Int → Int → Int → ByteArray → List Int → Bool → O β) : zj51 N a0 a1 k = zb51 N (zj49 N) (zj50 N) a0 a1 k := by
  unfold zj51 zb51
  rfl
theorem ve6_0 (N : Nat) (zq49 : (a0 : Int) → (a1 : Int) → (k : ByteArray → Bool → O β) → O β) (zq50 : (a0 : Int) → (a1 : Int) → (k : Int → O β) → O β)  (a0 : Int) (a1 : Int) (K : TV → O β) : evFn lay (VE6 N zq49 zq50) Tryd.f6 [.v (.agg [.int .i64 a0, .int .i64 a1])] K = zb51 N zq49 zq50 a0 a1 (fun z2 z3 z4 z5 z6 z7 z8 z9 => K (.tup [.agg [.int .i64 z2, .int .i64 z3, .int .i64 z4, .int .i64 z5, .int .i64 z6, .str z7, .sl 3 (.ints .i64 z8)], .one (.bool z9)])) := by kernel_rfl
theorem e6_0 (N : Nat)  (a0 : Int) (a1 : Int) (K : TV → O β) : evFn lay (E6 N) Tryd.f6 [.v (.agg [.int .i64 a0, .int .i64 a1])] K = zj51 N a0 a1 (fun z2 z3 z4 z5 z6 z7 z8 z9 => K (.tup [.agg [.int .i64 z2, .int .i64 z3, .int .i64 z4, .int .i64 z5, .int .i64 z6, .str z7, .sl 3 (.ints .i64 z8)], .one (.bool z9)])) := (ve6_0 N (zj49 N) (zj50 N) a0 a1 K).trans (zt51 N a0 a1 (fun z2 z3 z4 z5 z6 z7 z8 z9 => K (.tup [.agg [.int .i64 z2, .int .i64 z3, .int .i64 z4, .int .i64 z5, .int .i64 z6, .str z7, .sl 3 (.ints .i64 z8)], .one (.bool z9)]))).symm
theorem o6 (N : Nat) : SpecOK (β := β) inv Tryd.prog 6 (S6 N) := by
  refine spec_of lay_ok mixed (E := E6 N) (specs_loops (specs_cons (o12 N) (specs_cons (o13 N) specs_nil))) muts_nil gs_nil Tryd.func6 (by kernel_rfl) 0 (by kernel_rfl) trivial fun args K r h => ?_
  unfold S6 VS6 at h
  split at h
  · exact (e6_0 N _ _ _).trans h
  · cases h
def VS14 (N : Nat) (zq52 : (a0 : Int) → (a1 : Int) → (a2 : Int) → (a3 : Int) → (k : Bool → O β) → O β) : Rv.Spec β := fun args K => match args with
  | [.v (.agg [.int .i64 a0, .int .i64 a1]), .v (.agg [.int .i64 a2, .int .i64 a3])] => zq52 a0 a1 a2 a3 (fun z4 => K (.v (.one (.bool z4))))
  | _ => none
def S14 (N : Nat) : Rv.Spec β := VS14 N (zj52 N)
def VE14 (N : Nat) : Env β := ⟨[], [], [], [], ⟨[], [], [], []⟩⟩
def E14 (N : Nat) : Env β := VE14 N
def zb52 (N : Nat) (a0 : Int) (a1 : Int) (a2 : Int) (a3 : Int) (k : Bool → O β) : O β :=
(cond ((a0 != a2))
(k false)
((cond ((a1 != a3))
(k false)
(k true))))
theorem zt52 (N : Nat) (a0 : Int) (a1 : Int) (a2 : Int) (a3 : Int) (k : Bool → O β) : zj52 N a0 a1 a2 a3 k = zb52 N a0 a1 a2 a3 k := by
  unfold zj52 zb52
  rfl
theorem ve14_0 (N : Nat)  (a0 : Int) (a1 : Int) (a2 : Int) (a3 : Int) (K : TV → O β) : evFn lay (VE14 N) Tryd.f14 [.v (.agg [.int .i64 a0, .int .i64 a1]), .v (.agg [.int .i64 a2, .int .i64 a3])] K = zb52 N a0 a1 a2 a3 (fun z4 => K (.v (.one (.bool z4)))) := by kernel_rfl
theorem e14_0 (N : Nat)  (a0 : Int) (a1 : Int) (a2 : Int) (a3 : Int) (K : TV → O β) : evFn lay (E14 N) Tryd.f14 [.v (.agg [.int .i64 a0, .int .i64 a1]), .v (.agg [.int .i64 a2, .int .i64 a3])] K = zj52 N a0 a1 a2 a3 (fun z4 => K (.v (.one (.bool z4)))) := (ve14_0 N a0 a1 a2 a3 K).trans (zt52 N a0 a1 a2 a3 (fun z4 => K (.v (.one (.bool z4))))).symm
theorem o14 (N : Nat) : SpecOK (β := β) inv Tryd.prog 14 (S14 N) := by
  refine spec_of lay_ok mixed (E := E14 N) (specs_loops specs_nil) muts_nil gs_nil Tryd.func14 (by kernel_rfl) 0 (by kernel_rfl) trivial fun args K r h => ?_
  unfold S14 VS14 at h
  split at h
  · exact (e14_0 N _ _ _ _ _).trans h
  · cases h
def VS15 (N : Nat) (zq55 : (a0 : List Int) → (a1 : List Int) → (k : Bool → O β) → O β) : Rv.Spec β := fun args K => match args with
  | [.v (.one (.sl 3 (.ints .i64 a0))), .v (.one (.sl 3 (.ints .i64 a1)))] => zq55 a0 a1 (fun z2 => K (.v (.one (.bool z2))))
  | _ => none
def S15 (N : Nat) : Rv.Spec β := VS15 N (zj55 N)
def h15_0_0  (v0 : List Int) (v1 : List Int) (v2 : Int) : St := ⟨.v (.one (.sl 3 (.ints .i64 v0))) :: .v (.one (.sl 3 (.ints .i64 v1))) :: tund :: tund :: tund :: .v (.one (.int .i64 v2)) :: tund :: tund :: tund :: tund :: tund :: tund :: tund :: tund :: tund :: tund :: tund :: tund :: tund :: tund :: tund :: tund :: tund :: tund :: tund :: tund :: [], []⟩
def x15_0_0_k0  (y0 : Bool) : St := ⟨tund :: tund :: tund :: tund :: .v (.one (.bool y0)) :: tund :: tund :: tund :: tund :: tund :: tund :: tund :: tund :: tund :: tund :: tund :: tund :: tund :: tund :: tund :: tund :: tund :: tund :: tund :: tund :: tund :: [], []⟩
def x15_0_0_k1   : St := ⟨tund :: tund :: tund :: tund :: tund :: tund :: tund :: tund :: tund :: tund :: tund :: tund :: tund :: tund :: tund :: tund :: tund :: tund :: tund :: tund :: tund :: tund :: tund :: tund :: tund :: tund :: [], []⟩
theorem fl15_0_0 (s : St) : refSt (h15_0_0 [] [] 0) s = h15_0_0 (rInts (rowV (oneA (vT (nx tund s.tmps 0))))) (rInts (rowV (oneA (vT (nx tund s.tmps 1))))) (intS (oneA (vT (nx tund s.tmps 5)))) := by kernel_rfl
def VLS15_0 (N : Nat) (zq54 : Nat → List Int → List Int → Int → (Bool → O β) → (O β) → O β) : LSpec β := fun s K => cond (shpSt (h15_0_0 [] [] 0) s) ((fun (v0 : List Int) (v1 : List Int) (v2 : Int) => zq54  N v0 v1 v2 (fun y0 => K .ret (x15_0_0_k0  y0)) (K (.exit 0) (x15_0_0_k1  ))) (rInts (rowV (oneA (vT (nx tund s.tmps 0))))) (rInts (rowV (oneA (vT (nx tund s.tmps 1))))) (intS (oneA (vT (nx tund s.tmps 5))))) (none)
def LS15_0 (N : Nat) : LSpec β := VLS15_0 N (zj54 N)
def VE15 (N : Nat) (zq54 : Nat → List Int → List Int → Int → (Bool → O β) → (O β) → O β) : Env β := ⟨[], [], [(0, VLS15_0 N zq54)], [], ⟨[], [], [], []⟩⟩
def E15 (N : Nat) : Env β := VE15 N (zj54 N)
def zb53 (N : Nat)  (v0 : List Int) (v1 : List Int) (v2 : Int) (rec_ : List Int → List Int → Int → O β) (k0 : Bool → O β) (k1 : O β) : O β :=
(cond ((decide (v2 < (v0.length : Int))))
((gd ((decide (0 ≤ v2)))
((gd ((decide (v2 < (v0.length : Int))))
((gd ((decide (0 ≤ v2)))
((gd ((decide (v2 < (v1.length : Int))))
((cond (((rd 0 v0 v2) != (rd 0 v1 v2)))
(k0 false)
(rec_ v0 v1 ((w64 (v2 + 1))))))))))))))
(k1 ))
theorem zt53 (N : Nat)  (v0 : List Int) (v1 : List Int) (v2 : Int) (rec_ : List Int → List Int → Int → O β) (k0 : Bool → O β) (k1 : O β) : zj53 N v0 v1 v2 rec_ k0 k1 = zb53 N v0 v1 v2 rec_ k0 k1 := by
  unfold zj53 zb53
  rfl
theorem vst15_0_0 (N : Nat) (zq54 : Nat → List Int → List Int → Int → (Bool → O β) → (O β) → O β)  (v0 : List Int) (v1 : List Int) (v2 : Int) (rec_ : St → O β) (K : Exit → St → O β) :
    ev lay (VE15 N zq54) (retMask Tryd.f15) (lp Tryd.f15 0).body (lp Tryd.f15 0).ex ((lp Tryd.f15 0).lv (retMask Tryd.f15)) (h15_0_0  v0 v1 v2) (nextR (fun s' => rec_ (s'.tidy ((lp Tryd.f15 0).lv (retMask Tryd.f15)))) K) = zb53 N  v0 v1 v2 (fun v0 v1 v2 => rec_ (h15_0_0  v0 v1 v2)) (fun y0 => K .ret (x15_0_0_k0  y0)) (K (.exit 0) (x15_0_0_k1  )) := by kernel_rfl
theorem st15_0_0 (N : Nat)  (v0 : List Int) (v1 : List Int) (v2 : Int) (rec_ : St → O β) (K : Exit → St → O β) :
    ev lay (E15 N) (retMask Tryd.f15) (lp Tryd.f15 0).body (lp Tryd.f15 0).ex ((lp Tryd.f15 0).lv (retMask Tryd.f15)) (h15_0_0  v0 v1 v2) (nextR (fun s' => rec_ (s'.tidy ((lp Tryd.f15 0).lv (retMask Tryd.f15)))) K) = zj53 N  v0 v1 v2 (fun v0 v1 v2 => rec_ (h15_0_0  v0 v1 v2)) (fun y0 => K .ret (x15_0_0_k0  y0)) (K (.exit 0) (x15_0_0_k1  )) := (vst15_0_0 N (zj54 N) v0 v1 v2 rec_ K).trans (zt53 N  v0 v1 v2 (fun v0 v1 v2 => rec_ (h15_0_0  v0 v1 v2)) (fun y0 => K .ret (x15_0_0_k0  y0)) (K (.exit 0) (x15_0_0_k1  ))).symm
theorem ro15_0_0 (N : Nat)  (K : Exit → St → O β) : ∀ (F : Nat) (v0 : List Int) (v1 : List Int) (v2 : Int), (lp Tryd.f15 0).rounds lay (E15 N) (retMask Tryd.f15) F (h15_0_0  v0 v1 v2) K = zj54 N  F v0 v1 v2 (fun y0 => K .ret (x15_0_0_k0  y0)) (K (.exit 0) (x15_0_0_k1  )) := by
  intro F
  induction F with
  | zero => intros; rfl
  | succ F ih =>
    intros
    rw [rounds_next]
    refine (st15_0_0 N  _ _ _ (fun s => (lp Tryd.f15 0).rounds lay (E15 N) (retMask Tryd.f15) F s K) K).trans ?_
    simp only [ih]
    rfl
theorem lk15_0 (N : Nat) : lookL (E15 (β := β) N).loops (lp Tryd.f15 0).id = LS15_0 N := by kernel_rfl
theorem rk15_0 (N : Nat) : RoundsOK lay (E15 (β := β) N) (retMask Tryd.f15) (lp Tryd.f15 0) := by
  intro s K r h
  rw [lk15_0] at h
  unfold LS15_0 VLS15_0 at h
  cases hb : shpSt (h15_0_0 [] [] 0) s with
  | true =>
    rw [hb, cond_true] at h
    exact ⟨N, by rw [← shpSt_ref hb, fl15_0_0 s]; exact (ro15_0_0 N  K N (rInts (rowV (oneA (vT (nx tund s.tmps 0))))) (rInts (rowV (oneA (vT (nx tund s.tmps 1))))) (intS (oneA (vT (nx tund s.tmps 5))))).trans h⟩
  | false =>
  rw [hb, cond_false] at h
  clear hb
  cases h
def zb55 (N : Nat) (zq54 : Nat → List Int → List Int → Int → (Bool → O β) → (O β) → O β) (a0 : List Int) (a1 : List Int) (k : Bool → O β) : O β :=
(cond (((a0.length : Int) != (a1.length : Int)))
(k false)
(zq54  N a0 a1 0 (fun e3_0 =>
k e3_0) (k true)))
theorem zt55 (N : Nat) (a0 : List Int) (a1 : List Int) (k : Bool → O β) : zj55 N a0 a1 k = zb55 N (zj54 N) a0 a1 k := by
  unfold zj55 zb55
  rfl
theorem ve15_0 (N : Nat) (zq54 : Nat → List Int → List Int → Int → (Bool → O β) → (O β) → O β)  (a0 : List Int) (a1 : List Int) (K : TV → O β) : evFn lay (VE15 N zq54) Tryd.f15 [.v (.one (.sl 3 (.ints .i64 a0))), .v (.one (.sl 3 (.ints .i64 a1)))] K = zb55 N zq54 a0 a1 (fun z2 => K (.v (.one (.bool z2)))) := by kernel_rfl
theorem e15_0 (N : Nat)  (a0 : List Int) (a1 : List Int) (K : TV → O β) : evFn lay (E15 N) Tryd.f15 [.v (.one (.sl 3 (.ints .i64 a0))), .v (.one (.sl 3 (.ints .i64 a1)))] K = zj55 N a0 a1 (fun z2 => K (.v (.one (.bool z2)))) := (ve15_0 N (zj54 N) a0 a1 K).trans (zt55 N a0 a1 (fun z2 => K (.v (.one (.bool z2))))).symm
theorem o15 (N : Nat) : SpecOK (β := β) inv Tryd.prog 15 (S15 N) := by
  refine spec_of lay_ok mixed (E := E15 N) (specs_loops specs_nil) muts_nil gs_nil Tryd.func15 (by kernel_rfl) 1 (by kernel_rfl) ⟨trivial, rk15_0 N⟩ fun args K r h => ?_
  unfold S15 VS15 at h
  split at h
  · exact (e15_0 N _ _ _).trans h
  · cases h
def VS7 (N : Nat) (zq56 : (a0 : Int) → (a1 : Int) → (a2 : Int) → (a3 : Int) → (a4 : Int) → (a5 : ByteArray) → (a6 : List Int) → (a7 : Int) → (a8 : Int) → (a9 : Int) → (a10 : Int) → (a11 : Int) → (a12 : ByteArray) → (a13 : List Int) → (k : Bool → O β) → O β) : Rv.Spec β := fun args K => match args with
  | [.v (.agg [.int .i64 a0, .int .i64 a1, .int .i64 a2, .int .i64 a3, .int .i64 a4, .str a5, .sl 3 (.ints .i64 a6)]), .v (.agg [.int .i64 a7, .int .i64 a8, .int .i64 a9, .int .i64 a10, .int .i64 a11, .str a12, .sl 3 (.ints .i64 a13)])] => zq56 a0 a1 a2 a3 a4 a5 a6 a7 a8 a9 a10 a11 a12 a13 (fun z14 => K (.v (.one (.bool z14))))
  | _ => none
def S7 (N : Nat) : Rv.Spec β := VS7 N (zj56 N)
def VE7 (N : Nat) (zq52 : (a0 : Int) → (a1 : Int) → (a2 : Int) → (a3 : Int) → (k : Bool → O β) → O β) (zq55 : (a0 : List Int) → (a1 : List Int) → (k : Bool → O β) → O β) : Env β := ⟨[(14, VS14 N zq52), (15, VS15 N zq55)], [], [], [], ⟨[], [], [], []⟩⟩
def E7 (N : Nat) : Env β := VE7 N (zj52 N) (zj55 N)
def zb56 (N : Nat) (zq52 : (a0 : Int) → (a1 : Int) → (a2 : Int) → (a3 : Int) → (k : Bool → O β) → O β) (zq55 : (a0 : List Int) → (a1 : List Int) → (k : Bool → O β) → O β) (a0 : Int) (a1 : Int) (a2 : Int) (a3 : Int) (a4 : Int) (a5 : ByteArray) (a6 : List Int) (a7 : Int) (a8 : Int) (a9 : Int) (a10 : Int) (a11 : Int) (a12 : ByteArray) (a13 : List Int) (k : Bool → O β) : O β :=
(cond ((a0 != a7))
(k false)
(zq52 a1 a2 a8 a9 fun r15 =>
(cond (!r15)
(k false)
((cond ((a3 != a10))
(k false)
((cond ((a4 != a11))
(k false)
((cond ((!(a5.toList == a12.toList)))
(k false)
(zq55 a6 a13 fun r16 =>
(cond (!r16)
(k false)
(k true))))))))))))
theorem zt56 (N : Nat) (a0 : Int) (a1 : Int) (a2 : Int) (a3 : Int) (a4 : Int) (a5 : ByteArray) (a6 : List Int) (a7 : Int) (a8 : Int) (a9 : Int) (a10 : Int) (a11 : Int) (a12 : ByteArray) (a13 : List Int) (k : Bool → O β) : zj56 N a0 a1 a2 a3 a4 a5 a6 a7 a8 a9 a10 a11 a12 a13 k = zb56 N (zj52 N) (zj55 N) a0 a1 a2 a3 a4 a5 a6 a7 a8 a9 a10 a11 a12 a13 k := by
  unfold zj56 zb56
  rfl
theorem ve7_0 (N : Nat) (zq52 : (a0 : Int) → (a1 : Int) → (a2 : Int) → (a3 : Int) → (k : Bool → O β) → O β) (zq55 : (a0 : List Int) → (a1 : List Int) → (k : Bool → O β) → O β)  (a0 : Int) (a1 : Int) (a2 : Int) (a3 : Int) (a4 : Int) (a5 : ByteArray) (a6 : List Int) (a7 : Int) (a8 : Int) (a9 : Int) (a10 : Int) (a11 : Int) (a12 : ByteArray) (a13 : List Int) (K : TV → O β) : evFn lay (VE7 N zq52 zq55) Tryd.f7 [.v (.agg [.int .i64 a0, .int .i64 a1, .int .i64 a2, .int .i64 a3, .int .i64 a4, .str a5, .sl 3 (.ints .i64 a6)]), .v (.agg [.int .i64 a7, .int .i64 a8, .int .i64 a9, .int .i64 a10, .int .i64 a11, .str a12, .sl 3 (.ints .i64 a13)])] K = zb56 N zq52 zq55 a0 a1 a2 a3 a4 a5 a6 a7 a8 a9 a10 a11 a12 a13 (fun z14 => K (.v (.one (.bool z14)))) := by kernel_rfl
theorem e7_0 (N : Nat)  (a0 : Int) (a1 : Int) (a2 : Int) (a3 : Int) (a4 : Int) (a5 : ByteArray) (a6 : List Int) (a7 : Int) (a8 : Int) (a9 : Int) (a10 : Int) (a11 : Int) (a12 : ByteArray) (a13 : List Int) (K : TV → O β) : evFn lay (E7 N) Tryd.f7 [.v (.agg [.int .i64 a0, .int .i64 a1, .int .i64 a2, .int .i64 a3, .int .i64 a4, .str a5, .sl 3 (.ints .i64 a6)]), .v (.agg [.int .i64 a7, .int .i64 a8, .int .i64 a9, .int .i64 a10, .int .i64 a11, .str a12, .sl 3 (.ints .i64 a13)])] K = zj56 N a0 a1 a2 a3 a4 a5 a6 a7 a8 a9 a10 a11 a12 a13 (fun z14 => K (.v (.one (.bool z14)))) := (ve7_0 N (zj52 N) (zj55 N) a0 a1 a2 a3 a4 a5 a6 a7 a8 a9 a10 a11 a12 a13 K).trans (zt56 N a0 a1 a2 a3 a4 a5 a6 a7 a8 a9 a10 a11 a12 a13 (fun z14 => K (.v (.one (.bool z14))))).symm
theorem o7 (N : Nat) : SpecOK (β := β) inv Tryd.prog 7 (S7 N) := by
  refine spec_of lay_ok mixed (E := E7 N) (specs_loops (specs_cons (o14 N) (specs_cons (o15 N) specs_nil))) muts_nil gs_nil Tryd.func7 (by kernel_rfl) 0 (by kernel_rfl) trivial fun args K r h => ?_
  unfold S7 VS7 at h
  split at h
  · exact (e7_0 N _ _ _ _ _ _ _ _ _ _ _ _ _ _ _).trans h
  · cases h
def VS17 (N : Nat) (zq59 : (a0 : List Int) → (a1 : Int) → (k : Int → O β) → O β) : Rv.Spec β := fun args K => match args with
  | [.v (.one (.sl 3 (.ints .i64 a0))), .v (.one (.int .i64 a1))] => zq59 a0 a1 (fun z2 => K (.v (.one (.int .i64 z2))))
  | _ => none
def S17 (N : Nat) : Rv.Spec β := VS17 N (zj59 N)
def h17_0_0  (v0 : List Int) (v1 : Int) (v2 : Int) : St := ⟨.v (.one (.sl 3 (.ints .i64 v0))) :: .v (.one (.int .i64 v1)) :: tund :: tund :: tund :: .v (.one (.int .i64 v2)) :: tund :: tund :: tund :: tund :: tund :: tund :: tund :: tund :: tund :: tund :: tund :: tund :: tund :: tund :: tund :: [], []⟩
def x17_0_0_k0  (y0 : Int) : St := ⟨tund :: tund :: tund :: tund :: .v (.one (.int .i64 y0)) :: tund :: tund :: tund :: tund :: tund :: tund :: tund :: tund :: tund :: tund :: tund :: tund :: tund :: tund :: tund :: tund :: [], []⟩
def x17_0_0_k1  (y0 : Int) : St := ⟨tund :: .v (.one (.int .i64 y0)) :: tund :: tund :: tund :: tund :: tund :: tund :: tund :: tund :: tund :: tund :: tund :: tund :: tund :: tund :: tund :: tund :: tund :: tund :: tund :: [], []⟩
theorem fl17_0_0 (s : St) : refSt (h17_0_0 [] 0 0) s = h17_0_0 (rInts (rowV (oneA (vT (nx tund s.tmps 0))))) (intS (oneA (vT (nx tund s.tmps 1)))) (intS (oneA (vT (nx tund s.tmps 5)))) := by kernel_rfl
def VLS17_0 (N : Nat) (zq58 : Nat → List Int → Int → Int → (Int → O β) → (Int → O β) → O β) : LSpec β := fun s K => cond (shpSt (h17_0_0 [] 0 0) s) ((fun (v0 : List Int) (v1 : Int) (v2 : Int) => zq58  N v0 v1 v2 (fun y0 => K .ret (x17_0_0_k0  y0)) (fun y0 => K (.exit 0) (x17_0_0_k1  y0))) (rInts (rowV (oneA (vT (nx tund s.tmps 0))))) (intS (oneA (vT (nx tund s.tmps 1)))) (intS (oneA (vT (nx tund s.tmps 5))))) (none)
def LS17_0 (N : Nat) : LSpec β := VLS17_0 N (zj58 N)
def VE17 (N : Nat) (zq58 : Nat → List Int → Int → Int → (Int → O β) → (Int → O β) → O β) : Env β := ⟨[], [], [(0, VLS17_0 N zq58)], [], ⟨[], [], [], []⟩⟩
def E17 (N : Nat) : Env β := VE17 N (zj58 N)
def zb57 (N : Nat)  (v0 : List Int) (v1 : Int) (v2 : Int) (rec_ : List Int → Int → Int → O β) (k0 : Int → O β) (k1 : Int → O β) : O β :=
(cond ((decide (v2 < (v0.length : Int))))
((gd ((decide (0 ≤ v2)))
((gd ((decide (v2 < (v0.length : Int))))
((cond (((rd 0 v0 v2) != v1))
(k0 (-1))
(rec_ v0 ((w64 (v1 + 1))) ((w64 (v2 + 1))))))))))
(k1 v1))
theorem zt57 (N : Nat)  (v0 : List Int) (v1 : Int) (v2 : Int) (rec_ : List Int → Int → Int → O β) (k0 : Int → O β) (k1 : Int → O β) : zj57 N v0 v1 v2 rec_ k0 k1 = zb57 N v0 v1 v2 rec_ k0 k1 := by
  unfold zj57 zb57
  rfl
theorem vst17_0_0 (N : Nat) (zq58 : Nat → List Int → Int → Int → (Int → O β) → (Int → O β) → O β)  (v0 : List Int) (v1 : Int) (v2 : Int) (rec_ : St → O β) (K : Exit → St → O β) :
    ev lay (VE17 N zq58) (retMask Tryd.f17) (lp Tryd.f17 0).body (lp Tryd.f17 0).ex ((lp Tryd.f17 0).lv (retMask Tryd.f17)) (h17_0_0  v0 v1 v2) (nextR (fun s' => rec_ (s'.tidy ((lp Tryd.f17 0).lv (retMask Tryd.f17)))) K) = zb57 N  v0 v1 v2 (fun v0 v1 v2 => rec_ (h17_0_0  v0 v1 v2)) (fun y0 => K .ret (x17_0_0_k0  y0)) (fun y0 => K (.exit 0) (x17_0_0_k1  y0)) := by kernel_rfl
theorem st17_0_0 (N : Nat)  (v0 : List Int) (v1 : Int) (v2 : Int) (rec_ : St → O β) (K : Exit → St → O β) :
    ev lay (E17 N) (retMask Tryd.f17) (lp Tryd.f17 0).body (lp Tryd.f17 0).ex ((lp Tryd.f17 0).lv (retMask Tryd.f17)) (h17_0_0  v0 v1 v2) (nextR (fun s' => rec_ (s'.tidy ((lp Tryd.f17 0).lv (retMask Tryd.f17)))) K) = zj57 N  v0 v1 v2 (fun v0 v1 v2 => rec_ (h17_0_0  v0 v1 v2)) (fun y0 => K .ret (x17_0_0_k0  y0)) (fun y0 => K (.exit 0) (x17_0_0_k1  y0)) := (vst17_0_0 N (zj58 N) v0 v1 v2 rec_ K).trans (zt57 N  v0 v1 v2 (fun v0 v1 v2 => rec_ (h17_0_0  v0 v1 v2)) (fun y0 => K .ret (x17_0_0_k0  y0)) (fun y0 => K (.exit 0) (x17_0_0_k1  y0))).symm
theorem ro17_0_0 (N : Nat)  (K : Exit → St → O β) : ∀ (F : Nat) (v0 : List Int) (v1 : Int) (v2 : Int), (lp Tryd.f17 0).rounds lay (E17 N) (retMask Tryd.f17) F (h17_0_0  v0 v1 v2) K = zj58 N  F v0 v1 v2 (fun y0 => K .ret (x17_0_0_k0  y0)) (fun y0 => K (.exit 0) (x17_0_0_k1  y0)) := by
  intro F
  induction F with
  | zero => intros; rfl
  | succ F ih =>
    intros
    rw [rounds_next]
    refine (st17_0_0 N  _ _ _ (fun s => (lp Tryd.f17 0).rounds lay (E17 N) (retMask Tryd.f17) F s K) K).trans ?_
    simp only [ih]
    rfl
theorem lk17_0 (N : Nat) : lookL (E17 (β := β) N).loops (lp Tryd.f17 0).id = LS17_0 N := by kernel_rfl
theorem rk17_0 (N : Nat) : RoundsOK lay (E17 (β := β) N) (retMask Tryd.f17) (lp Tryd.f17 0) := by
  intro s K r h
  rw [lk17_0] at h
  unfold LS17_0 VLS17_0 at h
  cases hb : shpSt (h17_0_0 [] 0 0) s with
  | true =>
    rw [hb, cond_true] at h
    exact ⟨N, by rw [← shpSt_ref hb, fl17_0_0 s]; exact (ro17_0_0 N  K N (rInts (rowV (oneA (vT (nx tund s.tmps 0))))) (intS (oneA (vT (nx tund s.tmps 1)))) (intS (oneA (vT (nx tund s.tmps 5))))).trans h⟩
  | false =>
  rw [hb, cond_false] at h
  clear hb
  cases h
def zb59 (N : Nat) (zq58 : Nat → List Int → Int → Int → (Int → O β) → (Int → O β) → O β) (a0 : List Int) (a1 : Int) (k : Int → O β) : O β :=
zq58  N a0 a1 0 (fun e3_0 =>
k e3_0) (fun e4_0 =>
k e4_0)
theorem zt59 (N : Nat) (a0 : List Int) (a1 : Int) (k : Int → O β) : zj59 N a0 a1 k = zb59 N (zj58 N) a0 a1 k := by
  unfold zj59 zb59
  rfl
theorem ve17_0 (N : Nat) (zq58 : Nat → List Int → Int → Int → (Int → O β) → (Int → O β) → O β)  (a0 : List Int) (a1 : Int) (K : TV → O β) : evFn lay (VE17 N zq58) Tryd.f17 [.v (.one (.sl 3 (.ints .i64 a0))), .v (.one (.int .i64 a1))] K = zb59 N zq58 a0 a1 (fun z2 => K (.v (.one (.int .i64 z2)))) := by kernel_rfl
theorem e17_0 (N : Nat)  (a0 : List Int) (a1 : Int) (K : TV → O β) : evFn lay (E17 N) Tryd.f17 [.v (.one (.sl 3 (.ints .i64 a0))), .v (.one (.int .i64 a1))] K = zj59 N a0 a1 (fun z2 => K (.v (.one (.int .i64 z2)))) := (ve17_0 N (zj58 N) a0 a1 K).trans (zt59 N a0 a1 (fun z2 => K (.v (.one (.int .i64 z2))))).symm
theorem o17 (N : Nat) : SpecOK (β := β) inv Tryd.prog 17 (S17 N) := by
  refine spec_of lay_ok mixed (E := E17 N) (specs_loops specs_nil) muts_nil gs_nil Tryd.func17 (by kernel_rfl) 1 (by kernel_rfl) ⟨trivial, rk17_0 N⟩ fun args K r h => ?_
  unfold S17 VS17 at h
  split at h
  · exact (e17_0 N _ _ _).trans h
  · cases h
def VS9 (N : Nat) (zq60 : (a0 : Int) → (a1 : Int) → (a2 : Int) → (a3 : Int) → (a4 : Int) → (a5 : ByteArray) → (a6 : List Int) → (a7 : Int) → (k : Int → O β) → O β) : Rv.Spec β := fun args K => match args with
  | [.v (.agg [.int .i64 a0, .int .i64 a1, .int .i64 a2, .int .i64 a3, .int .i64 a4, .str a5, .sl 3 (.ints .i64 a6)]), .v (.one (.int .i64 a7))] => zq60 a0 a1 a2 a3 a4 a5 a6 a7 (fun z8 => K (.v (.one (.int .i64 z8))))
  | _ => none
def S9 (N : Nat) : Rv.Spec β := VS9 N (zj60 N)
def VE9 (N : Nat) (zq59 : (a0 : List Int) → (a1 : Int) → (k : Int → O β) → O β) : Env β := ⟨[(17, VS17 N zq59)], [], [], [], ⟨[], [], [], []⟩⟩
def E9 (N : Nat) : Env β := VE9 N (zj59 N)
def zb60 (N : Nat) (zq59 : (a0 : List Int) → (a1 : Int) → (k : Int → O β) → O β) (a0 : Int) (a1 : Int) (a2 : Int) (a3 : Int) (a4 : Int) (a5 : ByteArray) (a6 : List Int) (a7 : Int) (k : Int → O β) : O β :=
zq59 a6 a7 fun r9 =>
(cond ((decide (r9 < 0)))
(k (-1))
(k r9))
theorem zt60 (N : Nat) (a0 : Int) (a1 : Int) (a2 : Int) (a3 : Int) (a4 : Int) (a5 : ByteArray) (a6 : List Int) (a7 : Int) (k : Int → O β) : zj60 N a0 a1 a2 a3 a4 a5 a6 a7 k = zb60 N (zj59 N) a0 a1 a2 a3 a4 a5 a6 a7 k := by
  unfold zj60 zb60
  rfl
theorem ve9_0 (N : Nat) (zq59 : (a0 : List Int) → (a1 : Int) → (k : Int → O β) → O β)  (a0 : Int) (a1 : Int) (a2 : Int) (a3 : Int) (a4 : Int) (a5 : ByteArray) (a6 : List Int) (a7 : Int) (K : TV → O β) : evFn lay (VE9 N zq59) Tryd.f9 [.v (.agg [.int .i64 a0, .int .i64 a1, .int .i64 a2, .int .i64 a3, .int .i64 a4, .str a5, .sl 3 (.ints .i64 a6)]), .v (.one (.int .i64 a7))] K = zb60 N zq59 a0 a1 a2 a3 a4 a5 a6 a7 (fun z8 => K (.v (.one (.int .i64 z8)))) := by kernel_rfl
theorem e9_0 (N : Nat)  (a0 : Int) (a1 : Int) (a2 : Int) (a3 : Int) (a4 : Int) (a5 : ByteArray) (a6 : List Int) (a7 : Int) (K : TV → O β) : evFn lay (E9 N) Tryd.f9 [.v (.agg [.int .i64 a0, .int .i64 a1, .int .i64 a2, .int .i64 a3, .int .i64 a4, .str a5, .sl 3 (.ints .i64 a6)]), .v (.one (.int .i64 a7))] K = zj60 N a0 a1 a2 a3 a4 a5 a6 a7 (fun z8 => K (.v (.one (.int .i64 z8)))) := (ve9_0 N (zj59 N) a0 a1 a2 a3 a4 a5 a6 a7 K).trans (zt60 N a0 a1 a2 a3 a4 a5 a6 a7 (fun z8 => K (.v (.one (.int .i64 z8))))).symm
theorem o9 (N : Nat) : SpecOK (β := β) inv Tryd.prog 9 (S9 N) := by
  refine spec_of lay_ok mixed (E := E9 N) (specs_loops (specs_cons (o17 N) specs_nil)) muts_nil gs_nil Tryd.func9 (by kernel_rfl) 0 (by kernel_rfl) trivial fun args K r h => ?_
  unfold S9 VS9 at h
  split at h
  · exact (e9_0 N _ _ _ _ _ _ _ _ _).trans h
  · cases h
def VS16 (N : Nat) (zq63 : (a0 : List Int) → (a1 : Int) → (k : Int → List Int → O β) → O β) : MSpec β := fun args bl K => match args, bl with
  | [.v (.one (.row 0)), .v (.one (.int .i64 a1))], [.prow 0 3 (.ints .i64 a0)] => zq63 a0 a1 (fun z2 m0 => K (.v (.one (.int .i64 z2))) [(.ints .i64 m0)])
  | _, _ => none
def S16 (N : Nat) : MSpec β := VS16 N (zj63 N)
def h16_0_0  (v0 : Int) (v1 : Int) (v2 : List Int) : St := ⟨.v (.one (.row 0)) :: .v (.one (.int .i64 v0)) :: tund :: tund :: tund :: .v (.one (.int .i64 v1)) :: tund :: tund :: tund :: tund :: tund :: tund :: tund :: tund :: tund :: tund :: tund :: tund :: tund :: [], [.prow 0 3 (.ints .i64 v2)]⟩
def x16_0_0_k0  (y0 : Int) (y1 : List Int) : St := ⟨.v (.one (.row 0)) :: .v (.one (.int .i64 y0)) :: tund :: tund :: tund :: tund :: tund :: tund :: tund :: tund :: tund :: tund :: tund :: tund :: tund :: tund :: tund :: tund :: tund :: [], [.prow 0 3 (.ints .i64 y1)]⟩
theorem fl16_0_0 (s : St) : refSt (h16_0_0 0 0 []) s = h16_0_0 (intS (oneA (vT (nx tund s.tmps 1)))) (intS (oneA (vT (nx tund s.tmps 5)))) (rInts (rowB_ (nx .dead s.blks 0))) := by kernel_rfl
def VLS16_0 (N : Nat) (zq62 : Nat → Int → Int → List Int → (Int → List Int → O β) → O β) : LSpec β := fun s K => cond (shpSt (h16_0_0 0 0 []) s) ((fun (v0 : Int) (v1 : Int) (v2 : List Int) => zq62  N v0 v1 v2 (fun y0 y1 => K (.exit 0) (x16_0_0_k0  y0 y1))) (intS (oneA (vT (nx tund s.tmps 1)))) (intS (oneA (vT (nx tund s.tmps 5)))) (rInts (rowB_ (nx .dead s.blks 0)))) (none)
def LS16_0 (N : Nat) : LSpec β := VLS16_0 N (zj62 N)
def VE16 (N : Nat) (zq62 : Nat → Int → Int → List Int → (Int → List Int → O β) → O β) : Env β := ⟨[], [], [(0, VLS16_0 N zq62)], [], ⟨[], [], [], []⟩⟩
def E16 (N : Nat) : Env β := VE16 N (zj62 N)
def zb61 (N : Nat)  (v0 : Int) (v1 : Int) (v2 : List Int) (rec_ : Int → Int → List Int → O β) (k0 : Int → List Int → O β) : O β :=
(cond ((decide (v1 < (v2.length : Int))))
((gd ((decide (0 ≤ v1)))
((gd ((decide (v1 < (v2.length : Int))))
(rec_ ((w64 (v0 + 1))) ((w64 (v1 + 1))) ((wr v2 v1 v0)))))))
(k0 v0 v2))
theorem zt61 (N : Nat)  (v0 : Int) (v1 : Int) (v2 : List Int) (rec_ : Int → Int → List Int → O β) (k0 : Int → List Int → O β) : zj61 N v0 v1 v2 rec_ k0 = zb61 N v0 v1 v2 rec_ k0 := by
  unfold zj61 zb61
  rfl
theorem vst16_0_0 (N : Nat) (zq62 : Nat → Int → Int → List Int → (Int → List Int → O β) → O β)  (v0 : Int) (v1 : Int) (v2 : List Int) (rec_ : St → O β) (K : Exit → St → O β) :
    ev lay (VE16 N zq62) (retMaskM Tryd.f16) (lpM Tryd.f16 0).body (lpM Tryd.f16 0).ex ((lpM Tryd.f16 0).lv (retMaskM Tryd.f16)) (h16_0_0  v0 v1 v2) (nextR (fun s' => rec_ (s'.tidy ((lpM Tryd.f16 0).lv (retMaskM Tryd.f16)))) K) = zb61 N  v0 v1 v2 (fun v0 v1 v2 => rec_ (h16_0_0  v0 v1 v2)) (fun y0 y1 => K (.exit 0) (x16_0_0_k0  y0 y1)) := by kernel_rfl
theorem st16_0_0 (N : Nat)  (v0 : Int) (v1 : Int) (v2 : List Int) (rec_ : St → O β) (K : Exit → St → O β) :
    ev lay (E16 N) (retMaskM Tryd.f16) (lpM Tryd.f16 0).body (lpM Tryd.f16 0).ex ((lpM Tryd.f16 0).lv (retMaskM Tryd.f16)) (h16_0_0  v0 v1 v2) (nextR (fun s' => rec_ (s'.tidy ((lpM Tryd.f16 0).lv (retMaskM Tryd.f16)))) K) = zj61 N  v0 v1 v2 (fun v0 v1 v2 => rec_ (h16_0_0  v0 v1 v2)) (fun y0 y1 => K (.exit 0) (x16_0_0_k0  y0 y1)) := (vst16_0_0 N (zj62 N) v0 v1 v2 rec_ K).trans (zt61 N  v0 v1 v2 (fun v0 v1 v2 => rec_ (h16_0_0  v0 v1 v2)) (fun y0 y1 => K (.exit 0) (x16_0_0_k0  y0 y1))).symm
theorem ro16_0_0 (N : Nat)  (K : Exit → St → O β) : ∀ (F : Nat) (v0 : Int) (v1 : Int) (v2 : List Int), (lpM Tryd.f16 0).rounds lay (E16 N) (retMaskM Tryd.f16) F (h16_0_0  v0 v1 v2) K = zj62 N  F v0 v1 v2 (fun y0 y1 => K (.exit 0) (x16_0_0_k0  y0 y1)) := by
  intro F
  induction F with
  | zero => intros; rfl
  | succ F ih =>
    intros
    rw [rounds_next]
    refine (st16_0_0 N  _ _ _ (fun s => (lpM Tryd.f16 0).rounds lay (E16 N) (retMaskM Tryd.f16) F s K) K).trans ?_
    simp only [ih]
    rfl
theorem lk16_0 (N : Nat) : lookL (E16 (β := β) N).loops (lpM Tryd.f16 0).id = LS16_0 N := by kernel_rfl
theorem rk16_0 (N : Nat) : RoundsOK lay (E16 (β := β) N) (retMaskM Tryd.f16) (lpM Tryd.f16 0) := by
  intro s K r h
  rw [lk16_0] at h
  unfold LS16_0 VLS16_0 at h
  cases hb : shpSt (h16_0_0 0 0 []) s with
  | true =>
    rw [hb, cond_true] at h
    exact ⟨N, by rw [← shpSt_ref hb, fl16_0_0 s]; exact (ro16_0_0 N  K N (intS (oneA (vT (nx tund s.tmps 1)))) (intS (oneA (vT (nx tund s.tmps 5)))) (rInts (rowB_ (nx .dead s.blks 0)))).trans h⟩
  | false =>
  rw [hb, cond_false] at h
  clear hb
  cases h
def zb63 (N : Nat) (zq62 : Nat → Int → Int → List Int → (Int → List Int → O β) → O β) (a0 : List Int) (a1 : Int) (k : Int → List Int → O β) : O β :=
zq62  N a1 0 a0 (fun e3_0 e3_1 =>
k e3_0 e3_1)
theorem zt63 (N : Nat) (a0 : List Int) (a1 : Int) (k : Int → List Int → O β) : zj63 N a0 a1 k = zb63 N (zj62 N) a0 a1 k := by
  unfold zj63 zb63
  rfl
theorem ve16_0 (N : Nat) (zq62 : Nat → Int → Int → List Int → (Int → List Int → O β) → O β)  (a0 : List Int) (a1 : Int) (K : TV → List Row → O β) : evFnM lay (VE16 N zq62) Tryd.f16 [.v (.one (.row 0)), .v (.one (.int .i64 a1))] [.prow 0 3 (.ints .i64 a0)] K = zb63 N zq62 a0 a1 (fun z2 m0 => K (.v (.one (.int .i64 z2))) [(.ints .i64 m0)]) := by kernel_rfl
theorem e16_0 (N : Nat)  (a0 : List Int) (a1 : Int) (K : TV → List Row → O β) : evFnM lay (E16 N) Tryd.f16 [.v (.one (.row 0)), .v (.one (.int .i64 a1))] [.prow 0 3 (.ints .i64 a0)] K = zj63 N a0 a1 (fun z2 m0 => K (.v (.one (.int .i64 z2))) [(.ints .i64 m0)]) := (ve16_0 N (zj62 N) a0 a1 K).trans (zt63 N a0 a1 (fun z2 m0 => K (.v (.one (.int .i64 z2))) [(.ints .i64 m0)])).symm
theorem o16 (N : Nat) : MutOK (β := β) inv Tryd.prog 16 (S16 N) := by
  refine mut_of lay_ok mixed (E := E16 N) (specs_loops specs_nil) muts_nil gs_nil Tryd.func16 (by kernel_rfl) 1 (by kernel_rfl) ⟨trivial, rk16_0 N⟩ fun args bl K r h => ?_
  unfold S16 VS16 at h
  split at h
  · exact (e16_0 N _ _ _).trans h
  · cases h
def VS8 (N : Nat) (zq64 : (a0 : Int) → (a1 : Int) → (a2 : Int) → (a3 : Int) → (a4 : Int) → (a5 : ByteArray) → (a6 : List Int) → (a7 : Int) → (k : Int → List Int → O β) → O β) : MSpec β := fun args bl K => match args, bl with
  | [.v (.agg [.int .i64 a0, .int .i64 a1, .int .i64 a2, .int .i64 a3, .int .i64 a4, .str a5, .row 0]), .v (.one (.int .i64 a7))], [.prow 0 3 (.ints .i64 a6)] => zq64 a0 a1 a2 a3 a4 a5 a6 a7 (fun z8 m0 => K (.v (.one (.int .i64 z8))) [(.ints .i64 m0)])
  | _, _ => none
def S8 (N : Nat) : MSpec β := VS8 N (zj64 N)
def VE8 (N : Nat) (zq63 : (a0 : List Int) → (a1 : Int) → (k : Int → List Int → O β) → O β) : Env β := ⟨[], [(16, VS16 N zq63)], [], [], ⟨[], [], [], []⟩⟩
def E8 (N : Nat) : Env β := VE8 N (zj63 N)
def zb64 (N : Nat) (zq63 : (a0 : List Int) → (a1 : Int) → (k : Int → List Int → O β) → O β) (a0 : Int) (a1 : Int) (a2 : Int) (a3 : Int) (a4 : Int) (a5 : ByteArray) (a6 : List Int) (a7 : Int) (k : Int → List Int → O β) : O β :=
zq63 a6 a7 fun r9 m10 =>
k r9 m10
theorem zt64 (N : Nat) (a0 : Int) (a1 : Int) (a2 : Int) (a3 : Int) (a4 : Int) (a5 : ByteArray) (a6 : List Int) (a7 : Int) (k : Int → List Int → O β) : zj64 N a0 a1 a2 a3 a4 a5 a6 a7 k = zb64 N (zj63 N) a0 a1 a2 a3 a4 a5 a6 a7 k := by
  unfold zj64 zb64
  rfl
theorem ve8_0 (N : Nat) (zq63 : (a0 : List Int) → (a1 : Int) → (k : Int → List Int → O β) → O β)  (a0 : Int) (a1 : Int) (a2 : Int) (a3 : Int) (a4 : Int) (a5 : ByteArray) (a6 : List Int) (a7 : Int) (K : TV → List Row → O β) : evFnM lay (VE8 N zq63) Tryd.f8 [.v (.agg [.int .i64 a0, .int .i64 a1, .int .i64 a2, .int .i64 a3, .int .i64 a4, .str a5, .row 0]), .v (.one (.int .i64 a7))] [.prow 0 3 (.ints .i64 a6)] K = zb64 N zq63 a0 a1 a2 a3 a4 a5 a6 a7 (fun z8 m0 => K (.v (.one (.int .i64 z8))) [(.ints .i64 m0)]) := by kernel_rfl
theorem e8_0 (N : Nat)  (a0 : Int) (a1 : Int) (a2 : Int) (a3 : Int) (a4 : Int) (a5 : ByteArray) (a6 : List Int) (a7 : Int) (K : TV → List Row → O β) : evFnM lay (E8 N) Tryd.f8 [.v (.agg [.int .i64 a0, .int .i64 a1, .int .i64 a2, .int .i64 a3, .int .i64 a4, .str a5, .row 0]), .v (.one (.int .i64 a7))] [.prow 0 3 (.ints .i64 a6)] K = zj64 N a0 a1 a2 a3 a4 a5 a6 a7 (fun z8 m0 => K (.v (.one (.int .i64 z8))) [(.ints .i64 m0)]) := (ve8_0 N (zj63 N) a0 a1 a2 a3 a4 a5 a6 a7 K).trans (zt64 N a0 a1 a2 a3 a4 a5 a6 a7 (fun z8 m0 => K (.v (.one (.int .i64 z8))) [(.ints .i64 m0)])).symm
theorem o8 (N : Nat) : MutOK (β := β) inv Tryd.prog 8 (S8 N) := by
  refine mut_of lay_ok mixed (E := E8 N) (specs_loops specs_nil) (muts_cons (o16 N) muts_nil) gs_nil Tryd.func8 (by kernel_rfl) 0 (by kernel_rfl) trivial fun args bl K r h => ?_
  unfold S8 VS8 at h
  split at h
  · exact (e8_0 N _ _ _ _ _ _ _ _ _).trans h
  · cases h
def VS3 (N : Nat) (q_laws_FnExactClaimOfFormula : (a0 : Int) → (a1 : Int) → (k : Bool → O β) → O β) : Rv.Spec β := fun args K => match args with
  | [.v (.agg [.int .i64 a0, .int .i64 a1])] => q_laws_FnExactClaimOfFormula a0 a1 (fun z2 => K (.v (.one (.bool z2))))
  | _ => none
def S3 (N : Nat) : Rv.Spec β := VS3 N (laws_FnExactClaimOfFormula N)
def VE3 (N : Nat) (zq12 : (a0 : Int) → (a1 : Int) → (k : Int → Int → O β) → O β) (zq29 : (a0 : Int) → (a1 : Int) → (k : Int → Int → Int → Int → Int → ByteArray → List Int → Bool → O β) → O β) (zq51 : (a0 : Int) → (a1 : Int) → (k : Int → Int → Int → Int → Int → ByteArray → List Int → Bool → O β) → O β) (zq56 : (a0 : Int) → (a1 : Int) → (a2 : Int) → (a3 : Int) → (a4 : Int) → (a5 : ByteArray) → (a6 : List Int) → (a7 : Int) → (a8 : Int) → (a9 : Int) → (a10 : Int) → (a11 : Int) → (a12 : ByteArray) → (a13 : List Int) → (k : Bool → O β) → O β) (zq60 : (a0 : Int) → (a1 : Int) → (a2 : Int) → (a3 : Int) → (a4 : Int) → (a5 : ByteArray) → (a6 : List Int) → (a7 : Int) → (k : Int → O β) → O β) (zq64 : (a0 : Int) → (a1 : Int) → (a2 : Int) → (a3 : Int) → (a4 : Int) → (a5 : ByteArray) → (a6 : List Int) → (a7 : Int) → (k : Int → List Int → O β) → O β) : Env β := ⟨[(5, VS5 N zq12), (4, VS4 N zq29), (6, VS6 N zq51), (7, VS7 N zq56), (9, VS9 N zq60)], [(8, VS8 N zq64)], [], [], ⟨[], [], [], []⟩⟩
def E3 (N : Nat) : Env β := VE3 N (zj12 N) (zj29 N) (zj51 N) (zj56 N) (zj60 N) (zj64 N)
def BV_laws_FnExactClaimOfFormula (N : Nat) (zq12 : (a0 : Int) → (a1 : Int) → (k : Int → Int → O β) → O β) (zq29 : (a0 : Int) → (a1 : Int) → (k : Int → Int → Int → Int → Int → ByteArray → List Int → Bool → O β) → O β) (zq51 : (a0 : Int) → (a1 : Int) → (k : Int → Int → Int → Int → Int → ByteArray → List Int → Bool → O β) → O β) (zq56 : (a0 : Int) → (a1 : Int) → (a2 : Int) → (a3 : Int) → (a4 : Int) → (a5 : ByteArray) → (a6 : List Int) → (a7 : Int) → (a8 : Int) → (a9 : Int) → (a10 : Int) → (a11 : Int) → (a12 : ByteArray) → (a13 : List Int) → (k : Bool → O β) → O β) (zq64 : (a0 : Int) → (a1 : Int) → (a2 : Int) → (a3 : Int) → (a4 : Int) → (a5 : ByteArray) → (a6 : List Int) → (a7 : Int) → (k : Int → List Int → O β) → O β) (zq60 : (a0 : Int) → (a1 : Int) → (a2 : Int) → (a3 : Int) → (a4 : Int) → (a5 : ByteArray) → (a6 : List Int) → (a7 : Int) → (k : Int → O β) → O β) (a0 : Int) (a1 : Int) (k : Bool → O β) : O β :=
zq12 a0 a1 fun r3 r4 =>
zq29 r3 r4 fun r5 r6 r7 r8 r9 r10 r11 r12 =>
zq12 a0 a1 fun r13 r14 =>
zq51 r13 r14 fun r15 r16 r17 r18 r19 r20 r21 r22 =>
zq56 r15 r16 r17 r18 r19 r20 r21 r5 r6 r7 r8 r9 r10 r11 fun r23 =>
(cond (!r23)
(k false)
((cond ((!(r22 == r12)))
(k false)
(zq64 r15 r16 r17 r18 r19 r20 r21 1 fun r24 m25 =>
zq60 r15 r16 r17 r18 r19 r20 m25 1 fun r26 =>
(cond ((decide (r26 < 0)))
(k false)
((cond ((r26 != r24))
(k false)
(zq12 a0 a1 fun r27 r28 =>
zq51 r27 r28 fun r29 r30 r31 r32 r33 r34 r35 r36 =>
zq56 r29 r30 r31 r32 r33 r34 r35 r5 r6 r7 r8 r9 r10 r11 fun r37 =>
(cond (!r37)
(k false)
((cond ((!(r36 == r12)))
(k false)
(zq60 r15 r16 r17 r18 r19 r20 m25 1 fun r38 =>
(cond ((decide (r38 < 0)))
(k false)
((cond ((r38 != r24))
(k false)
(k true))))))))))))))))
theorem t_laws_FnExactClaimOfFormula (N : Nat) (a0 : Int) (a1 : Int) (k : Bool → O β) : laws_FnExactClaimOfFormula N a0 a1 k = BV_laws_FnExactClaimOfFormula N (zj12 N) (zj29 N) (zj51 N) (zj56 N) (zj64 N) (zj60 N) a0 a1 k := by
  unfold laws_FnExactClaimOfFormula BV_laws_FnExactClaimOfFormula
  rfl
theorem ve3_0 (N : Nat) (zq12 : (a0 : Int) → (a1 : Int) → (k : Int → Int → O β) → O β) (zq29 : (a0 : Int) → (a1 : Int) → (k : Int → Int → Int → Int → Int → ByteArray → List Int → Bool → O β) → O β) (zq51 : (a0 : Int) → (a1 : Int) → (k : Int → Int → Int → Int → Int → ByteArray → List Int → Bool → O β) → O β) (zq56 : (a0 : Int) → (a1 : Int) → (a2 : Int) → (a3 : Int) → (a4 : Int) → (a5 : ByteArray) → (a6 : List Int) → (a7 : Int) → (a8 : Int) → (a9 : Int) → (a10 : Int) → (a11 : Int) → (a12 : ByteArray) → (a13 : List Int) → (k : Bool → O β) → O β) (zq60 : (a0 : Int) → (a1 : Int) → (a2 : Int) → (a3 : Int) → (a4 : Int) → (a5 : ByteArray) → (a6 : List Int) → (a7 : Int) → (k : Int → O β) → O β) (zq64 : (a0 : Int) → (a1 : Int) → (a2 : Int) → (a3 : Int) → (a4 : Int) → (a5 : ByteArray) → (a6 : List Int) → (a7 : Int) → (k : Int → List Int → O β) → O β)  (a0 : Int) (a1 : Int) (K : TV → O β) : evFn lay (VE3 N zq12 zq29 zq51 zq56 zq60 zq64) Tryd.f3 [.v (.agg [.int .i64 a0, .int .i64 a1])] K = BV_laws_FnExactClaimOfFormula N zq12 zq29 zq51 zq56 zq64 zq60 a0 a1 (fun z2 => K (.v (.one (.bool z2)))) := by kernel_rfl
theorem e3_0 (N : Nat)  (a0 : Int) (a1 : Int) (K : TV → O β) : evFn lay (E3 N) Tryd.f3 [.v (.agg [.int .i64 a0, .int .i64 a1])] K = laws_FnExactClaimOfFormula N a0 a1 (fun z2 => K (.v (.one (.bool z2)))) := (ve3_0 N (zj12 N) (zj29 N) (zj51 N) (zj56 N) (zj60 N) (zj64 N) a0 a1 K).trans (t_laws_FnExactClaimOfFormula N a0 a1 (fun z2 => K (.v (.one (.bool z2))))).symm
theorem o3 (N : Nat) : SpecOK (β := β) inv Tryd.prog 3 (S3 N) := by
  refine spec_of lay_ok mixed (E := E3 N) (specs_loops (specs_cons (o5 N) (specs_cons (o4 N) (specs_cons (o6 N) (specs_cons (o7 N) (specs_cons (o9 N) specs_nil)))))) (muts_cons (o8 N) muts_nil) gs_nil Tryd.func3 (by kernel_rfl) 0 (by kernel_rfl) trivial fun args K r h => ?_
  unfold S3 VS3 at h
  split at h
  · exact (e3_0 N _ _ _).trans h
  · cases h
end Go.Proofs.YtmhlcbibbhelkaaDoor
