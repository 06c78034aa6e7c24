/- The functions that the claims reach answer as their texts do. -/
import Derived.Test.YtddflpokemgnmaaDoorE5
namespace Go.Proofs.YtddflpokemgnmaaDoor
open Go.Rv
set_option maxRecDepth 100000
set_option maxHeartbeats 2000000
set_option linter.unusedVariables false
variable {β : Type}
def VS9 (N : Nat) (zq78 : (a0 : Int) → (a1 : Int) → (a2 : Int) → (k : Int → O β) → O β) : Rv.Spec β := fun args K => match args with
  | [.v (.agg [.int .i64 a0, .int .i64 a1]), .v (.one (.int .i64 a2))] => zq78 a0 a1 a2 (fun z3 => K (.v (.one (.int .i64 z3))))
  | _ => none
def S9 (N : Nat) : Rv.Spec β := VS9 N (zj78 N)
def VE9 (N : Nat) (zq60 : (a0 : Int) → (a1 : Int) → (a2 : Int) → (k : Bool → O β) → O β) (zq65 : (a0 : Int) → (a1 : Int) → (a2 : Int) → (k : List Int → Bool → O β) → O β) (zq76 : Nat → List Int → Int → Int → Int → (Int → O β) → O β) : Env β := ⟨[(27, VS27 N zq60), (28, VS28 N zq65), (31, VS31 N zq76)], [], [], [], ⟨[], [], [], []⟩⟩
def E9 (N : Nat) : Env β := VE9 N (zj60 N) (zj65 N) (zj76 N)
def zb78 (N : Nat) (zq60 : (a0 : Int) → (a1 : Int) → (a2 : Int) → (k : Bool → O β) → O β) (zq65 : (a0 : Int) → (a1 : Int) → (a2 : Int) → (k : List Int → Bool → O β) → O β) (zq76 : Nat → List Int → Int → Int → Int → (Int → O β) → O β) (a0 : Int) (a1 : Int) (a2 : Int) (k : Int → O β) : O β :=
zq60 a0 a1 a2 fun r4 =>
(cond (!r4)
(k (-1))
(zq65 a0 a1 a2 fun r5 r6 =>
(gd ((decide (0 ≤ (r5.length : Int))))
((gd ((decide (0 ≤ (w64 (a0 - a2)))))
((gd ((decide (0 ≤ (shlI .u64 1 (w64 (a0 - a2))))))
(zq76 N r5 ((w64 ((shlI .i64 1 (r5.length : Int)) - 1))) ((w64 ((shlI .i64 1 (shlI .u64 1 (w64 (a0 - a2)))) - 1))) 4 fun r7 =>
k r7))))))))
theorem zt78 (N : Nat) (a0 : Int) (a1 : Int) (a2 : Int) (k : Int → O β) : zj78 N a0 a1 a2 k = zb78 N (zj60 N) (zj65 N) (zj76 N) a0 a1 a2 k := by
  unfold zj78 zb78
  rfl
theorem ve9_0 (N : Nat) (zq60 : (a0 : Int) → (a1 : Int) → (a2 : Int) → (k : Bool → O β) → O β) (zq65 : (a0 : Int) → (a1 : Int) → (a2 : Int) → (k : List Int → Bool → O β) → O β) (zq76 : Nat → List Int → Int → Int → Int → (Int → O β) → O β)  (a0 : Int) (a1 : Int) (a2 : Int) (K : TV → O β) : evFn lay (VE9 N zq60 zq65 zq76) Tryd.f9 [.v (.agg [.int .i64 a0, .int .i64 a1]), .v (.one (.int .i64 a2))] K = zb78 N zq60 zq65 zq76 a0 a1 a2 (fun z3 => K (.v (.one (.int .i64 z3)))) := by kernel_rfl
theorem e9_0 (N : Nat)  (a0 : Int) (a1 : Int) (a2 : Int) (K : TV → O β) : evFn lay (E9 N) Tryd.f9 [.v (.agg [.int .i64 a0, .int .i64 a1]), .v (.one (.int .i64 a2))] K = zj78 N a0 a1 a2 (fun z3 => K (.v (.one (.int .i64 z3)))) := (ve9_0 N (zj60 N) (zj65 N) (zj76 N) a0 a1 a2 K).trans (zt78 N a0 a1 a2 (fun z3 => K (.v (.one (.int .i64 z3))))).symm
theorem o9 (N : Nat) : SpecOK (β := β) inv Tryd.prog 9 (S9 N) := by
  refine spec_of lay_ok mixed (E := E9 N) (specs_loops (specs_cons (o27 N) (specs_cons (o28 N) (specs_cons (o31 N) specs_nil)))) muts_nil gs_nil Tryd.func9 (by kernel_rfl) 0 (by kernel_rfl) trivial fun args K r h => ?_
  unfold S9 VS9 at h
  split at h
  · exact (e9_0 N _ _ _ _).trans h
  · cases h
def VS61 (N : Nat) (zq79 : (a0 : Int) → (k : ByteArray → O β) → O β) : Rv.Spec β := fun args K => match args with
  | [.v (.one (.int .i64 a0))] => zq79 a0 (fun z1 => K (.v (.one (.str z1))))
  | _ => none
def S61 (N : Nat) : Rv.Spec β := VS61 N (zj79 N)
def VE61 (N : Nat) : Env β := ⟨[], [], [], [], ⟨[], [], [], []⟩⟩
def E61 (N : Nat) : Env β := VE61 N
def zb79 (N : Nat) (a0 : Int) (k : ByteArray → O β) : O β :=
(gd ((decide (0 ≤ (w64 (a0 + 1)))))
((gd ((decide ((w64 (a0 + 1)) ≤ (((strOf [48, 49, 50, 51, 52, 53, 54, 55, 56, 57, 97, 98, 99, 100, 101, 102])).size : Int))))
((gd ((decide (0 ≤ a0)))
((gd ((decide (a0 ≤ (w64 (a0 + 1)))))
(k ((((strOf [48, 49, 50, 51, 52, 53, 54, 55, 56, 57, 97, 98, 99, 100, 101, 102])).extract (Int.toNat a0) (Int.toNat (w64 (a0 + 1)))))))))))))
theorem zt79 (N : Nat) (a0 : Int) (k : ByteArray → O β) : zj79 N a0 k = zb79 N a0 k := by
  unfold zj79 zb79
  rfl
theorem ve61_0 (N : Nat)  (a0 : Int) (K : TV → O β) : evFn lay (VE61 N) Tryd.f61 [.v (.one (.int .i64 a0))] K = zb79 N a0 (fun z1 => K (.v (.one (.str z1)))) := by kernel_rfl
theorem e61_0 (N : Nat)  (a0 : Int) (K : TV → O β) : evFn lay (E61 N) Tryd.f61 [.v (.one (.int .i64 a0))] K = zj79 N a0 (fun z1 => K (.v (.one (.str z1)))) := (ve61_0 N a0 K).trans (zt79 N a0 (fun z1 => K (.v (.one (.str z1))))).symm
theorem o61 (N : Nat) : SpecOK (β := β) inv Tryd.prog 61 (S61 N) := by
  refine spec_of lay_ok mixed (E := E61 N) (specs_loops specs_nil) muts_nil gs_nil Tryd.func61 (by kernel_rfl) 0 (by kernel_rfl) trivial fun args K r h => ?_
  unfold S61 VS61 at h
  split at h
  · exact (e61_0 N _ _).trans h
  · cases h
def VSF29 (N : Nat) (zq85 : Nat → List Int → Int → Int → Int → (ByteArray → O β) → O β) (G : Nat) : Rv.Spec β := fun args K => match args with
  | [.v (.one (.sl 3 (.ints .i64 a0))), .v (.one (.int .i64 a1)), .v (.one (.int .i64 a2)), .v (.one (.int .i64 a3))] => zq85 G a0 a1 a2 a3 (fun z4 => K (.v (.one (.str z4))))
  | _ => none
def SF29 (N : Nat) (G : Nat) : Rv.Spec β := VSF29 N (zj85 N) G
def VS29 (N : Nat) (zq85 : Nat → List Int → Int → Int → Int → (ByteArray → O β) → O β) : Rv.Spec β := VSF29 N zq85 N
def S29 (N : Nat) : Rv.Spec β := SF29 N N
def h29_0_0  (v0 : List Int) (v1 : Int) (v2 : Int) (v3 : Int) (v4 : Int) : St := ⟨.v (.one (.sl 3 (.ints .i64 v0))) :: .v (.one (.int .i64 v1)) :: .v (.one (.int .i64 v2)) :: .v (.one (.int .i64 v3)) :: tund :: tund :: tund :: tund :: tund :: tund :: .v (.one (.int .i64 v4)) :: tund :: tund :: tund :: tund :: tund :: tund :: tund :: tund :: tund :: tund :: tund :: tund :: tund :: tund :: tund :: tund :: tund :: tund :: tund :: tund :: tund :: tund :: tund :: tund :: tund :: tund :: tund :: tund :: tund :: tund :: tund :: tund :: tund :: tund :: tund :: tund :: tund :: tund :: tund :: tund :: tund :: tund :: tund :: tund :: tund :: tund :: tund :: tund :: tund :: tund :: tund :: tund :: tund :: tund :: tund :: tund :: tund :: tund :: tund :: tund :: tund :: tund :: tund :: tund :: tund :: tund :: tund :: tund :: tund :: tund :: tund :: tund :: tund :: tund :: tund :: tund :: tund :: tund :: tund :: tund :: tund :: tund :: tund :: tund :: tund :: tund :: tund :: tund :: tund :: tund :: tund :: tund :: tund :: tund :: tund :: tund :: tund :: tund :: tund :: tund :: tund :: tund :: tund :: tund :: tund :: tund :: tund :: tund :: tund :: tund :: tund :: tund :: tund :: tund :: tund :: tund :: tund :: tund :: tund :: tund :: tund :: tund :: tund :: tund :: tund :: tund :: tund :: tund :: tund :: tund :: tund :: tund :: tund :: [], []⟩
def x29_0_0_k0  (y0 : ByteArray) : St := ⟨tund :: tund :: tund :: tund :: tund :: tund :: tund :: tund :: .v (.one (.str y0)) :: tund :: tund :: tund :: tund :: tund :: tund :: tund :: tund :: tund :: tund :: tund :: tund :: tund :: tund :: tund :: tund :: tund :: tund :: tund :: tund :: tund :: tund :: tund :: tund :: tund :: tund :: tund :: tund :: tund :: tund :: tund :: tund :: tund :: tund :: tund :: tund :: tund :: tund :: tund :: tund :: tund :: tund :: tund :: tund :: tund :: tund :: tund :: tund :: tund :: tund :: tund :: tund :: tund :: tund :: tund :: tund :: tund :: tund :: tund :: tund :: tund :: tund :: tund :: tund :: tund :: tund :: tund :: tund :: tund :: tund :: tund :: tund :: tund :: tund :: tund :: tund :: tund :: tund :: tund :: tund :: tund :: tund :: tund :: tund :: tund :: tund :: tund :: tund :: tund :: tund :: tund :: tund :: tund :: tund :: tund :: tund :: tund :: tund :: tund :: tund :: tund :: tund :: tund :: tund :: tund :: tund :: tund :: tund :: tund :: tund :: tund :: tund :: tund :: tund :: tund :: tund :: tund :: tund :: tund :: tund :: tund :: tund :: tund :: tund :: tund :: tund :: tund :: tund :: tund :: tund :: tund :: tund :: tund :: tund :: tund :: [], []⟩
def x29_0_0_k1  (y0 : List Int) (y1 : Int) (y2 : Int) (y3 : Int) : St := ⟨.v (.one (.sl 3 (.ints .i64 y0))) :: .v (.one (.int .i64 y1)) :: .v (.one (.int .i64 y2)) :: .v (.one (.int .i64 y3)) :: tund :: tund :: tund :: tund :: tund :: tund :: tund :: tund :: tund :: tund :: tund :: tund :: tund :: tund :: tund :: tund :: tund :: tund :: tund :: tund :: tund :: tund :: tund :: tund :: tund :: tund :: tund :: tund :: tund :: tund :: tund :: tund :: tund :: tund :: tund :: tund :: tund :: tund :: tund :: tund :: tund :: tund :: tund :: tund :: tund :: tund :: tund :: tund :: tund :: tund :: tund :: tund :: tund :: tund :: tund :: tund :: tund :: tund :: tund :: tund :: tund :: tund :: tund :: tund :: tund :: tund :: tund :: tund :: tund :: tund :: tund :: tund :: tund :: tund :: tund :: tund :: tund :: tund :: tund :: tund :: tund :: tund :: tund :: tund :: tund :: tund :: tund :: tund :: tund :: tund :: tund :: tund :: tund :: tund :: tund :: tund :: tund :: tund :: tund :: tund :: tund :: tund :: tund :: tund :: tund :: tund :: tund :: tund :: tund :: tund :: tund :: tund :: tund :: tund :: tund :: tund :: tund :: tund :: tund :: tund :: tund :: tund :: tund :: tund :: tund :: tund :: tund :: tund :: tund :: tund :: tund :: tund :: tund :: tund :: tund :: tund :: tund :: tund :: tund :: tund :: [], []⟩
def h29_1_0  (v0 : List Int) (v1 : Int) (v2 : Int) (v3 : Int) (v4 : Int) : St := ⟨.v (.one (.sl 3 (.ints .i64 v0))) :: .v (.one (.int .i64 v1)) :: .v (.one (.int .i64 v2)) :: .v (.one (.int .i64 v3)) :: tund :: tund :: tund :: tund :: tund :: tund :: tund :: .v (.one (.int .i64 v4)) :: tund :: tund :: tund :: tund :: tund :: tund :: tund :: tund :: tund :: tund :: tund :: tund :: tund :: tund :: tund :: tund :: tund :: tund :: tund :: tund :: tund :: tund :: tund :: tund :: tund :: tund :: tund :: tund :: tund :: tund :: tund :: tund :: tund :: tund :: tund :: tund :: tund :: tund :: tund :: tund :: tund :: tund :: tund :: tund :: tund :: tund :: tund :: tund :: tund :: tund :: tund :: tund :: tund :: tund :: tund :: tund :: tund :: tund :: tund :: tund :: tund :: tund :: tund :: tund :: tund :: tund :: tund :: tund :: tund :: tund :: tund :: tund :: tund :: tund :: tund :: tund :: tund :: tund :: tund :: tund :: tund :: tund :: tund :: tund :: tund :: tund :: tund :: tund :: tund :: tund :: tund :: tund :: tund :: tund :: tund :: tund :: tund :: tund :: tund :: tund :: tund :: tund :: tund :: tund :: tund :: tund :: tund :: tund :: tund :: tund :: tund :: tund :: tund :: tund :: tund :: tund :: tund :: tund :: tund :: tund :: tund :: tund :: tund :: tund :: tund :: tund :: tund :: tund :: tund :: tund :: tund :: tund :: [], []⟩
def x29_1_0_k0  (y0 : ByteArray) : St := ⟨tund :: tund :: tund :: tund :: tund :: tund :: tund :: tund :: .v (.one (.str y0)) :: tund :: tund :: tund :: tund :: tund :: tund :: tund :: tund :: tund :: tund :: tund :: tund :: tund :: tund :: tund :: tund :: tund :: tund :: tund :: tund :: tund :: tund :: tund :: tund :: tund :: tund :: tund :: tund :: tund :: tund :: tund :: tund :: tund :: tund :: tund :: tund :: tund :: tund :: tund :: tund :: tund :: tund :: tund :: tund :: tund :: tund :: tund :: tund :: tund :: tund :: tund :: tund :: tund :: tund :: tund :: tund :: tund :: tund :: tund :: tund :: tund :: tund :: tund :: tund :: tund :: tund :: tund :: tund :: tund :: tund :: tund :: tund :: tund :: tund :: tund :: tund :: tund :: tund :: tund :: tund :: tund :: tund :: tund :: tund :: tund :: tund :: tund :: tund :: tund :: tund :: tund :: tund :: tund :: tund :: tund :: tund :: tund :: tund :: tund :: tund :: tund :: tund :: tund :: tund :: tund :: tund :: tund :: tund :: tund :: tund :: tund :: tund :: tund :: tund :: tund :: tund :: tund :: tund :: tund :: tund :: tund :: tund :: tund :: tund :: tund :: tund :: tund :: tund :: tund :: tund :: tund :: tund :: tund :: tund :: tund :: [], []⟩
def x29_1_0_k1   : St := ⟨tund :: tund :: tund :: tund :: tund :: tund :: tund :: tund :: tund :: tund :: tund :: tund :: tund :: tund :: tund :: tund :: tund :: tund :: tund :: tund :: tund :: tund :: tund :: tund :: tund :: tund :: tund :: tund :: tund :: tund :: tund :: tund :: tund :: tund :: tund :: tund :: tund :: tund :: tund :: tund :: tund :: tund :: tund :: tund :: tund :: tund :: tund :: tund :: tund :: tund :: tund :: tund :: tund :: tund :: tund :: tund :: tund :: tund :: tund :: tund :: tund :: tund :: tund :: tund :: tund :: tund :: tund :: tund :: tund :: tund :: tund :: tund :: tund :: tund :: tund :: tund :: tund :: tund :: tund :: tund :: tund :: tund :: tund :: tund :: tund :: tund :: tund :: tund :: tund :: tund :: tund :: tund :: tund :: tund :: tund :: tund :: tund :: tund :: tund :: tund :: tund :: tund :: tund :: tund :: tund :: tund :: tund :: tund :: tund :: tund :: tund :: tund :: tund :: tund :: tund :: tund :: tund :: tund :: tund :: tund :: tund :: tund :: tund :: tund :: tund :: tund :: tund :: tund :: tund :: tund :: tund :: tund :: tund :: tund :: tund :: tund :: tund :: tund :: tund :: tund :: tund :: tund :: tund :: tund :: [], []⟩
theorem fl29_0_0 (s : St) : refSt (h29_0_0 [] 0 0 0 0) s = h29_0_0 (rInts (rowV (oneA (vT (nx tund s.tmps 0))))) (intS (oneA (vT (nx tund s.tmps 1)))) (intS (oneA (vT (nx tund s.tmps 2)))) (intS (oneA (vT (nx tund s.tmps 3)))) (intS (oneA (vT (nx tund s.tmps 10)))) := by kernel_rfl
def VLS29_0 (N : Nat) (zq81 : (self : List Int → Int → Int → Int → (ByteArray → O β) → O β) → Nat → List Int → Int → Int → Int → Int → (ByteArray → O β) → (List Int → Int → Int → Int → O β) → O β) (zq85 : Nat → List Int → Int → Int → Int → (ByteArray → O β) → O β) (G : Nat) : LSpec β := fun s K => cond (shpSt (h29_0_0 [] 0 0 0 0) s) ((fun (v0 : List Int) (v1 : Int) (v2 : Int) (v3 : Int) (v4 : Int) => zq81 (zq85 G)  N v0 v1 v2 v3 v4 (fun y0 => K .ret (x29_0_0_k0  y0)) (fun y0 y1 y2 y3 => K (.exit 0) (x29_0_0_k1  y0 y1 y2 y3))) (rInts (rowV (oneA (vT (nx tund s.tmps 0))))) (intS (oneA (vT (nx tund s.tmps 1)))) (intS (oneA (vT (nx tund s.tmps 2)))) (intS (oneA (vT (nx tund s.tmps 3)))) (intS (oneA (vT (nx tund s.tmps 10))))) (none)
def LS29_0 (N : Nat) (G : Nat) : LSpec β := VLS29_0 N (zj81 N) (zj85 N) G
theorem fl29_1_0 (s : St) : refSt (h29_1_0 [] 0 0 0 0) s = h29_1_0 (rInts (rowV (oneA (vT (nx tund s.tmps 0))))) (intS (oneA (vT (nx tund s.tmps 1)))) (intS (oneA (vT (nx tund s.tmps 2)))) (intS (oneA (vT (nx tund s.tmps 3)))) (intS (oneA (vT (nx tund s.tmps 11)))) := by kernel_rfl
def VLS29_2 (N : Nat) (zq83 : (self : List Int → Int → Int → Int → (ByteArray → O β) → O β) → Nat → List Int → Int → Int → Int → Int → (ByteArray → O β) → (O β) → O β) (zq85 : Nat → List Int → Int → Int → Int → (ByteArray → O β) → O β) (G : Nat) : LSpec β := fun s K => cond (shpSt (h29_1_0 [] 0 0 0 0) s) ((fun (v0 : List Int) (v1 : Int) (v2 : Int) (v3 : Int) (v4 : Int) => zq83 (zq85 G)  N v0 v1 v2 v3 v4 (fun y0 => K .ret (x29_1_0_k0  y0)) (K (.exit 2) (x29_1_0_k1  ))) (rInts (rowV (oneA (vT (nx tund s.tmps 0))))) (intS (oneA (vT (nx tund s.tmps 1)))) (intS (oneA (vT (nx tund s.tmps 2)))) (intS (oneA (vT (nx tund s.tmps 3)))) (intS (oneA (vT (nx tund s.tmps 11))))) (none)
def LS29_2 (N : Nat) (G : Nat) : LSpec β := VLS29_2 N (zj83 N) (zj85 N) G
def VE29 (N : Nat) (zq70 : (a0 : List Int) → (a1 : Int) → (a2 : Int) → (k : Int → O β) → O β) (zq76 : Nat → List Int → Int → Int → Int → (Int → O β) → O β) (zq79 : (a0 : Int) → (k : ByteArray → O β) → O β) (zq85 : Nat → List Int → Int → Int → Int → (ByteArray → O β) → O β) (zq81 : (self : List Int → Int → Int → Int → (ByteArray → O β) → O β) → Nat → List Int → Int → Int → Int → Int → (ByteArray → O β) → (List Int → Int → Int → Int → O β) → O β) (zq83 : (self : List Int → Int → Int → Int → (ByteArray → O β) → O β) → Nat → List Int → Int → Int → Int → Int → (ByteArray → O β) → (O β) → O β) (G : Nat) : Env β := ⟨[(60, VS60 N zq70), (31, VS31 N zq76), (61, VS61 N zq79), (29, VSF29 N zq85 G)], [], [(0, VLS29_0 N zq81 zq85 G), (2, VLS29_2 N zq83 zq85 G)], [], ⟨[], [], [], []⟩⟩
def E29 (N : Nat) (G : Nat) : Env β := VE29 N (zj70 N) (zj76 N) (zj79 N) (zj85 N) (zj81 N) (zj83 N) G
def zb80 (N : Nat) (zq76 : Nat → List Int → Int → Int → Int → (Int → O β) → O β) (zq79 : (a0 : Int) → (k : ByteArray → O β) → O β) (self : List Int → Int → Int → Int → (ByteArray → O β) → O β)  (v0 : List Int) (v1 : Int) (v2 : Int) (v3 : Int) (v4 : Int) (rec_ : List Int → Int → Int → Int → Int → O β) (k0 : ByteArray → O β) (k1 : List Int → Int → Int → Int → O β) : O β :=
(cond ((decide (v4 < v1)))
((cond (((bits .and .i64 v4 v1) == v4))
(zq76 N v0 v4 v2 ((w64 (v3 - 1))) fun r6 =>
(cond ((decide (r6 < v3)))
(zq76 N v0 ((w64 (v1 - v4))) v2 ((w64 (v3 - 1))) fun r7 =>
(cond ((decide (r7 < v3)))
(zq79 v4 fun r8 =>
(gd ((decide (((strOf [65])).size + r8.size ≤ 9223372036854775807)))
(zq76 N v0 ((w64 (v1 - v4))) v2 ((w64 (v3 - 1))) fun r9 =>
self v0 ((w64 (v1 - v4))) v2 r9 fun r10 =>
(gd ((decide ((((strOf [65]) ++ r8)).size + r10.size ≤ 9223372036854775807)))
(zq76 N v0 v4 v2 ((w64 (v3 - 1))) fun r11 =>
self v0 v4 v2 r11 fun r12 =>
(gd ((decide (((((strOf [65]) ++ r8) ++ r10)).size + r12.size ≤ 9223372036854775807)))
(k0 (((((strOf [65]) ++ r8) ++ r10) ++ r12)))))))))
(rec_ v0 v1 v2 v3 ((w64 (v4 + 1))))))
(rec_ v0 v1 v2 v3 ((w64 (v4 + 1))))))
(rec_ v0 v1 v2 v3 ((w64 (v4 + 1))))))
(k1 v0 v1 v2 v3))
theorem zt80 (N : Nat) (self : List Int → Int → Int → Int → (ByteArray → O β) → O β)  (v0 : List Int) (v1 : Int) (v2 : Int) (v3 : Int) (v4 : Int) (rec_ : List Int → Int → Int → Int → Int → O β) (k0 : ByteArray → O β) (k1 : List Int → Int → Int → Int → O β) : zj80 N self v0 v1 v2 v3 v4 rec_ k0 k1 = zb80 N (zj76 N) (zj79 N) self v0 v1 v2 v3 v4 rec_ k0 k1 := by
  unfold zj80 zb80
  rfl
theorem vst29_0_0 (N : Nat) (zq70 : (a0 : List Int) → (a1 : Int) → (a2 : Int) → (k : Int → O β) → O β) (zq76 : Nat → List Int → Int → Int → Int → (Int → O β) → O β) (zq79 : (a0 : Int) → (k : ByteArray → O β) → O β) (zq85 : Nat → List Int → Int → Int → Int → (ByteArray → O β) → O β) (zq81 : (self : List Int → Int → Int → Int → (ByteArray → O β) → O β) → Nat → List Int → Int → Int → Int → Int → (ByteArray → O β) → (List Int → Int → Int → Int → O β) → O β) (zq83 : (self : List Int → Int → Int → Int → (ByteArray → O β) → O β) → Nat → List Int → Int → Int → Int → Int → (ByteArray → O β) → (O β) → O β) (G : Nat)  (v0 : List Int) (v1 : Int) (v2 : Int) (v3 : Int) (v4 : Int) (rec_ : St → O β) (K : Exit → St → O β) :
    ev lay (VE29 N zq70 zq76 zq79 zq85 zq81 zq83 G) (retMask Tryd.f29) (lp Tryd.f29 0).body (lp Tryd.f29 0).ex ((lp Tryd.f29 0).lv (retMask Tryd.f29)) (h29_0_0  v0 v1 v2 v3 v4) (nextR (fun s' => rec_ (s'.tidy ((lp Tryd.f29 0).lv (retMask Tryd.f29)))) K) = zb80 N zq76 zq79 (zq85 G)  v0 v1 v2 v3 v4 (fun v0 v1 v2 v3 v4 => rec_ (h29_0_0  v0 v1 v2 v3 v4)) (fun y0 => K .ret (x29_0_0_k0  y0)) (fun y0 y1 y2 y3 => K (.exit 0) (x29_0_0_k1  y0 y1 y2 y3)) := by kernel_rfl
theorem st29_0_0 (N : Nat) (G : Nat)  (v0 : List Int) (v1 : Int) (v2 : Int) (v3 : Int) (v4 : Int) (rec_ : St → O β) (K : Exit → St → O β) :
    ev lay (E29 N G) (retMask Tryd.f29) (lp Tryd.f29 0).body (lp Tryd.f29 0).ex ((lp Tryd.f29 0).lv (retMask Tryd.f29)) (h29_0_0  v0 v1 v2 v3 v4) (nextR (fun s' => rec_ (s'.tidy ((lp Tryd.f29 0).lv (retMask Tryd.f29)))) K) = zj80 N (zj85 N G)  v0 v1 v2 v3 v4 (fun v0 v1 v2 v3 v4 => rec_ (h29_0_0  v0 v1 v2 v3 v4)) (fun y0 => K .ret (x29_0_0_k0  y0)) (fun y0 y1 y2 y3 => K (.exit 0) (x29_0_0_k1  y0 y1 y2 y3)) := (vst29_0_0 N (zj70 N) (zj76 N) (zj79 N) (zj85 N) (zj81 N) (zj83 N) G v0 v1 v2 v3 v4 rec_ K).trans (zt80 N (zj85 N G)  v0 v1 v2 v3 v4 (fun v0 v1 v2 v3 v4 => rec_ (h29_0_0  v0 v1 v2 v3 v4)) (fun y0 => K .ret (x29_0_0_k0  y0)) (fun y0 y1 y2 y3 => K (.exit 0) (x29_0_0_k1  y0 y1 y2 y3))).symm
theorem ro29_0_0 (N : Nat) (G : Nat)  (K : Exit → St → O β) : ∀ (F : Nat) (v0 : List Int) (v1 : Int) (v2 : Int) (v3 : Int) (v4 : Int), (lp Tryd.f29 0).rounds lay (E29 N G) (retMask Tryd.f29) F (h29_0_0  v0 v1 v2 v3 v4) K = zj81 N (zj85 N G)  F v0 v1 v2 v3 v4 (fun y0 => K .ret (x29_0_0_k0  y0)) (fun y0 y1 y2 y3 => K (.exit 0) (x29_0_0_k1  y0 y1 y2 y3)) := by
  intro F
  induction F with
  | zero => intros; rfl
  | succ F ih =>
    intros
    rw [rounds_next]
    refine (st29_0_0 N G  _ _ _ _ _ (fun s => (lp Tryd.f29 0).rounds lay (E29 N G) (retMask Tryd.f29) F s K) K).trans ?_
    simp only [ih]
    rfl
theorem lk29_0 (N : Nat) (G : Nat) : lookL (E29 (β := β) N G).loops (lp Tryd.f29 0).id = LS29_0 N G := by kernel_rfl
theorem rk29_0 (N : Nat) (G : Nat) : RoundsOK lay (E29 (β := β) N G) (retMask Tryd.f29) (lp Tryd.f29 0) := by
  intro s K r h
  rw [lk29_0] at h
  unfold LS29_0 VLS29_0 at h
  cases hb : shpSt (h29_0_0 [] 0 0 0 0) s with
  | true =>
    rw [hb, cond_true] at h
    exact ⟨N, by rw [← shpSt_ref hb, fl29_0_0 s]; exact (ro29_0_0 N G  K N (rInts (rowV (oneA (vT (nx tund s.tmps 0))))) (intS (oneA (vT (nx tund s.tmps 1)))) (intS (oneA (vT (nx tund s.tmps 2)))) (intS (oneA (vT (nx tund s.tmps 3)))) (intS (oneA (vT (nx tund s.tmps 10))))).trans h⟩
  | false =>
  rw [hb, cond_false] at h
  clear hb
  cases h
def zb82 (N : Nat) (zq76 : Nat → List Int → Int → Int → Int → (Int → O β) → O β) (zq79 : (a0 : Int) → (k : ByteArray → O β) → O β) (self : List Int → Int → Int → Int → (ByteArray → O β) → O β)  (v0 : List Int) (v1 : Int) (v2 : Int) (v3 : Int) (v4 : Int) (rec_ : List Int → Int → Int → Int → Int → O β) (k0 : ByteArray → O β) (k1 : O β) : O β :=
(cond ((decide (v4 < v2)))
((cond (((bits .and .i64 v4 v2) == v4))
(zq76 N v0 v1 v4 ((w64 (v3 - 1))) fun r15 =>
(cond ((decide (r15 < v3)))
(zq76 N v0 v1 ((w64 (v2 - v4))) ((w64 (v3 - 1))) fun r16 =>
(cond ((decide (r16 < v3)))
(zq79 v4 fun r17 =>
(gd ((decide (((strOf [66])).size + r17.size ≤ 9223372036854775807)))
(zq76 N v0 v1 ((w64 (v2 - v4))) ((w64 (v3 - 1))) fun r18 =>
self v0 v1 ((w64 (v2 - v4))) r18 fun r19 =>
(gd ((decide ((((strOf [66]) ++ r17)).size + r19.size ≤ 9223372036854775807)))
(zq76 N v0 v1 v4 ((w64 (v3 - 1))) fun r20 =>
self v0 v1 v4 r20 fun r21 =>
(gd ((decide (((((strOf [66]) ++ r17) ++ r19)).size + r21.size ≤ 9223372036854775807)))
(k0 (((((strOf [66]) ++ r17) ++ r19) ++ r21)))))))))
(rec_ v0 v1 v2 v3 ((w64 (v4 + 1))))))
(rec_ v0 v1 v2 v3 ((w64 (v4 + 1))))))
(rec_ v0 v1 v2 v3 ((w64 (v4 + 1))))))
(k1 ))
theorem zt82 (N : Nat) (self : List Int → Int → Int → Int → (ByteArray → O β) → O β)  (v0 : List Int) (v1 : Int) (v2 : Int) (v3 : Int) (v4 : Int) (rec_ : List Int → Int → Int → Int → Int → O β) (k0 : ByteArray → O β) (k1 : O β) : zj82 N self v0 v1 v2 v3 v4 rec_ k0 k1 = zb82 N (zj76 N) (zj79 N) self v0 v1 v2 v3 v4 rec_ k0 k1 := by
  unfold zj82 zb82
  rfl
theorem vst29_1_0 (N : Nat) (zq70 : (a0 : List Int) → (a1 : Int) → (a2 : Int) → (k : Int → O β) → O β) (zq76 : Nat → List Int → Int → Int → Int → (Int → O β) → O β) (zq79 : (a0 : Int) → (k : ByteArray → O β) → O β) (zq85 : Nat → List Int → Int → Int → Int → (ByteArray → O β) → O β) (zq81 : (self : List Int → Int → Int → Int → (ByteArray → O β) → O β) → Nat → List Int → Int → Int → Int → Int → (ByteArray → O β) → (List Int → Int → Int → Int → O β) → O β) (zq83 : (self : List Int → Int → Int → Int → (ByteArray → O β) → O β) → Nat → List Int → Int → Int → Int → Int → (ByteArray → O β) → (O β) → O β) (G : Nat)  (v0 : List Int) (v1 : Int) (v2 : Int) (v3 : Int) (v4 : Int) (rec_ : St → O β) (K : Exit → St → O β) :
    ev lay (VE29 N zq70 zq76 zq79 zq85 zq81 zq83 G) (retMask Tryd.f29) (lp Tryd.f29 1).body (lp Tryd.f29 1).ex ((lp Tryd.f29 1).lv (retMask Tryd.f29)) (h29_1_0  v0 v1 v2 v3 v4) (nextR (fun s' => rec_ (s'.tidy ((lp Tryd.f29 1).lv (retMask Tryd.f29)))) K) = zb82 N zq76 zq79 (zq85 G)  v0 v1 v2 v3 v4 (fun v0 v1 v2 v3 v4 => rec_ (h29_1_0  v0 v1 v2 v3 v4)) (fun y0 => K .ret (x29_1_0_k0  y0)) (K (.exit 2) (x29_1_0_k1  )) := by kernel_rfl
theorem st29_1_0 (N : Nat) (G : Nat)  (v0 : List Int) (v1 : Int) (v2 : Int) (v3 : Int) (v4 : Int) (rec_ : St → O β) (K : Exit → St → O β) :
    ev lay (E29 N G) (retMask Tryd.f29) (lp Tryd.f29 1).body (lp Tryd.f29 1).ex ((lp Tryd.f29 1).lv (retMask Tryd.f29)) (h29_1_0  v0 v1 v2 v3 v4) (nextR (fun s' => rec_ (s'.tidy ((lp Tryd.f29 1).lv (retMask Tryd.f29)))) K) = zj82 N (zj85 N G)  v0 v1 v2 v3 v4 (fun v0 v1 v2 v3 v4 => rec_ (h29_1_0  v0 v1 v2 v3 v4)) (fun y0 => K .ret (x29_1_0_k0  y0)) (K (.exit 2) (x29_1_0_k1  )) := (vst29_1_0 N (zj70 N) (zj76 N) (zj79 N) (zj85 N) (zj81 N) (zj83 N) G v0 v1 v2 v3 v4 rec_ K).trans (zt82 N (zj85 N G)  v0 v1 v2 v3 v4 (fun v0 v1 v2 v3 v4 => rec_ (h29_1_0  v0 v1 v2 v3 v4)) (fun y0 => K .ret (x29_1_0_k0  y0)) (K (.exit 2) (x29_1_0_k1  ))).symm
theorem ro29_1_0 (N : Nat) (G : Nat)  (K : Exit → St → O β) : ∀ (F : Nat) (v0 : List Int) (v1 : Int) (v2 : Int) (v3 : Int) (v4 : Int), (lp Tryd.f29 1).rounds lay (E29 N G) (retMask Tryd.f29) F (h29_1_0  v0 v1 v2 v3 v4) K = zj83 N (zj85 N G)  F v0 v1 v2 v3 v4 (fun y0 => K .ret (x29_1_0_k0  y0)) (K (.exit 2) (x29_1_0_k1  )) := by
  intro F
  induction F with
  | zero => intros; rfl
  | succ F ih =>
    intros
    rw [rounds_next]
    refine (st29_1_0 N G  _ _ _ _ _ (fun s => (lp Tryd.f29 1).rounds lay (E29 N G) (retMask Tryd.f29) F s K) K).trans ?_
    simp only [ih]
    rfl
theorem lk29_2 (N : Nat) (G : Nat) : lookL (E29 (β := β) N G).loops (lp Tryd.f29 1).id = LS29_2 N G := by kernel_rfl
theorem rk29_2 (N : Nat) (G : Nat) : RoundsOK lay (E29 (β := β) N G) (retMask Tryd.f29) (lp Tryd.f29 1) := by
  intro s K r h
  rw [lk29_2] at h
  unfold LS29_2 VLS29_2 at h
  cases hb : shpSt (h29_1_0 [] 0 0 0 0) s with
  | true =>
    rw [hb, cond_true] at h
    exact ⟨N, by rw [← shpSt_ref hb, fl29_1_0 s]; exact (ro29_1_0 N G  K N (rInts (rowV (oneA (vT (nx tund s.tmps 0))))) (intS (oneA (vT (nx tund s.tmps 1)))) (intS (oneA (vT (nx tund s.tmps 2)))) (intS (oneA (vT (nx tund s.tmps 3)))) (intS (oneA (vT (nx tund s.tmps 11))))).trans h⟩
  | false =>
  rw [hb, cond_false] at h
  clear hb
  cases h
def zb84 (N : Nat) (zq70 : (a0 : List Int) → (a1 : Int) → (a2 : Int) → (k : Int → O β) → O β) (zq81 : (self : List Int → Int → Int → Int → (ByteArray → O β) → O β) → Nat → List Int → Int → Int → Int → Int → (ByteArray → O β) → (List Int → Int → Int → Int → O β) → O β) (zq83 : (self : List Int → Int → Int → Int → (ByteArray → O β) → O β) → Nat → List Int → Int → Int → Int → Int → (ByteArray → O β) → (O β) → O β) (self : List Int → Int → Int → Int → (ByteArray → O β) → O β) (a0 : List Int) (a1 : Int) (a2 : Int) (a3 : Int) (k : ByteArray → O β) : O β :=
zq70 a0 a1 a2 fun r5 =>
(cond ((decide (r5 < 2)))
((gd ((decide (0 ≤ (w64 (r5 + 1)))))
((gd ((decide ((w64 (r5 + 1)) ≤ (((strOf [48, 49])).size : Int))))
((gd ((decide (0 ≤ r5)))
((gd ((decide (r5 ≤ (w64 (r5 + 1)))))
(k ((((strOf [48, 49])).extract (Int.toNat r5) (Int.toNat (w64 (r5 + 1))))))))))))))
(zq81 self  N a0 a1 a2 a3 1 (fun e13_0 =>
k e13_0) (fun e14_0 e14_1 e14_2 e14_3 =>
zq83 self  N e14_0 e14_1 e14_2 e14_3 1 (fun e22_0 =>
k e22_0) (k ByteArray.empty))))
theorem zt84 (N : Nat) (self : List Int → Int → Int → Int → (ByteArray → O β) → O β) (a0 : List Int) (a1 : Int) (a2 : Int) (a3 : Int) (k : ByteArray → O β) : zj84 N self a0 a1 a2 a3 k = zb84 N (zj70 N) (zj81 N) (zj83 N) self a0 a1 a2 a3 k := by
  unfold zj84 zb84
  rfl
theorem ve29_0 (N : Nat) (zq70 : (a0 : List Int) → (a1 : Int) → (a2 : Int) → (k : Int → O β) → O β) (zq76 : Nat → List Int → Int → Int → Int → (Int → O β) → O β) (zq79 : (a0 : Int) → (k : ByteArray → O β) → O β) (zq85 : Nat → List Int → Int → Int → Int → (ByteArray → O β) → O β) (zq81 : (self : List Int → Int → Int → Int → (ByteArray → O β) → O β) → Nat → List Int → Int → Int → Int → Int → (ByteArray → O β) → (List Int → Int → Int → Int → O β) → O β) (zq83 : (self : List Int → Int → Int → Int → (ByteArray → O β) → O β) → Nat → List Int → Int → Int → Int → Int → (ByteArray → O β) → (O β) → O β) (G : Nat)  (a0 : List Int) (a1 : Int) (a2 : Int) (a3 : Int) (K : TV → O β) : evFn lay (VE29 N zq70 zq76 zq79 zq85 zq81 zq83 G) Tryd.f29 [.v (.one (.sl 3 (.ints .i64 a0))), .v (.one (.int .i64 a1)), .v (.one (.int .i64 a2)), .v (.one (.int .i64 a3))] K = zb84 N zq70 zq81 zq83 (zq85 G) a0 a1 a2 a3 (fun z4 => K (.v (.one (.str z4)))) := by kernel_rfl
theorem e29_0 (N : Nat) (G : Nat)  (a0 : List Int) (a1 : Int) (a2 : Int) (a3 : Int) (K : TV → O β) : evFn lay (E29 N G) Tryd.f29 [.v (.one (.sl 3 (.ints .i64 a0))), .v (.one (.int .i64 a1)), .v (.one (.int .i64 a2)), .v (.one (.int .i64 a3))] K = zj85 N (G + 1) a0 a1 a2 a3 (fun z4 => K (.v (.one (.str z4)))) := (ve29_0 N (zj70 N) (zj76 N) (zj79 N) (zj85 N) (zj81 N) (zj83 N) G a0 a1 a2 a3 K).trans (zt84 N (zj85 N G) a0 a1 a2 a3 (fun z4 => K (.v (.one (.str z4))))).symm
theorem z29 (N : Nat) : ∀ args K r, SF29 (β := β) N 0 args K = some r → (none : O β) = some r := by
  intro args K r h
  unfold SF29 VSF29 at h
  split at h <;> exact h
theorem of29 (N : Nat) : ∀ G, SpecOK (β := β) inv Tryd.prog 29 (SF29 N G) := by
  intro G
  induction G with
  | zero => exact s_zero Tryd.func29 (by kernel_rfl) (z29 N)
  | succ G ih =>
    refine spec_of lay_ok mixed (E := E29 N G) (specs_loops (specs_cons (o60 N) (specs_cons (o31 N) (specs_cons (o61 N) (specs_cons ih specs_nil))))) muts_nil gs_nil Tryd.func29 (by kernel_rfl) 2 (by kernel_rfl) ⟨⟨trivial, rk29_0 N G⟩, rk29_2 N G⟩ fun args K r h => ?_
    unfold SF29 VSF29 at h
    split at h
    · exact (e29_0 N G _ _ _ _ _).trans h
    · cases h
theorem o29 (N : Nat) : SpecOK (β := β) inv Tryd.prog 29 (S29 N) := of29 N N
def VS7 (N : Nat) (zq87 : (a0 : Int) → (a1 : Int) → (a2 : Int) → (k : ByteArray → Bool → O β) → O β) : Rv.Spec β := fun args K => match args with
  | [.v (.agg [.int .i64 a0, .int .i64 a1]), .v (.one (.int .i64 a2))] => zq87 a0 a1 a2 (fun z3 z4 => K (.tup [.one (.str z3), .one (.bool z4)]))
  | _ => none
def S7 (N : Nat) : Rv.Spec β := VS7 N (zj87 N)
def VE7 (N : Nat) (zq60 : (a0 : Int) → (a1 : Int) → (a2 : Int) → (k : Bool → O β) → O β) (zq65 : (a0 : Int) → (a1 : Int) → (a2 : Int) → (k : List Int → Bool → O β) → O β) (zq78 : (a0 : Int) → (a1 : Int) → (a2 : Int) → (k : Int → O β) → O β) (zq85 : Nat → List Int → Int → Int → Int → (ByteArray → O β) → O β) : Env β := ⟨[(27, VS27 N zq60), (28, VS28 N zq65), (9, VS9 N zq78), (29, VS29 N zq85)], [], [], [], ⟨[], [], [], []⟩⟩
def E7 (N : Nat) : Env β := VE7 N (zj60 N) (zj65 N) (zj78 N) (zj85 N)
def zb87 (N : Nat) (zq60 : (a0 : Int) → (a1 : Int) → (a2 : Int) → (k : Bool → O β) → O β) (zq65 : (a0 : Int) → (a1 : Int) → (a2 : Int) → (k : List Int → Bool → O β) → O β) (zq78 : (a0 : Int) → (a1 : Int) → (a2 : Int) → (k : Int → O β) → O β) (zq85 : Nat → List Int → Int → Int → Int → (ByteArray → O β) → O β) (a0 : Int) (a1 : Int) (a2 : Int) (k : ByteArray → Bool → O β) : O β :=
zq60 a0 a1 a2 fun r5 =>
(cond (!r5)
(k ByteArray.empty false)
(zq65 a0 a1 a2 fun r6 r7 =>
(gd ((decide (0 ≤ (r6.length : Int))))
((gd ((decide (0 ≤ (w64 (a0 - a2)))))
((gd ((decide (0 ≤ (shlI .u64 1 (w64 (a0 - a2))))))
(zq78 a0 a1 a2 fun r8 =>
zq85 N r6 ((w64 ((shlI .i64 1 (r6.length : Int)) - 1))) ((w64 ((shlI .i64 1 (shlI .u64 1 (w64 (a0 - a2)))) - 1))) r8 fun r9 =>
k r9 true))))))))
theorem zt87 (N : Nat) (a0 : Int) (a1 : Int) (a2 : Int) (k : ByteArray → Bool → O β) : zj87 N a0 a1 a2 k = zb87 N (zj60 N) (zj65 N) (zj78 N) (zj85 N) a0 a1 a2 k := by
  unfold zj87 zb87
  rfl
theorem ve7_0 (N : Nat) (zq60 : (a0 : Int) → (a1 : Int) → (a2 : Int) → (k : Bool → O β) → O β) (zq65 : (a0 : Int) → (a1 : Int) → (a2 : Int) → (k : List Int → Bool → O β) → O β) (zq78 : (a0 : Int) → (a1 : Int) → (a2 : Int) → (k : Int → O β) → O β) (zq85 : Nat → List Int → Int → Int → Int → (ByteArray → O β) → O β)  (a0 : Int) (a1 : Int) (a2 : Int) (K : TV → O β) : evFn lay (VE7 N zq60 zq65 zq78 zq85) Tryd.f7 [.v (.agg [.int .i64 a0, .int .i64 a1]), .v (.one (.int .i64 a2))] K = zb87 N zq60 zq65 zq78 zq85 a0 a1 a2 (fun z3 z4 => K (.tup [.one (.str z3), .one (.bool z4)])) := by kernel_rfl
theorem e7_0 (N : Nat)  (a0 : Int) (a1 : Int) (a2 : Int) (K : TV → O β) : evFn lay (E7 N) Tryd.f7 [.v (.agg [.int .i64 a0, .int .i64 a1]), .v (.one (.int .i64 a2))] K = zj87 N a0 a1 a2 (fun z3 z4 => K (.tup [.one (.str z3), .one (.bool z4)])) := (ve7_0 N (zj60 N) (zj65 N) (zj78 N) (zj85 N) a0 a1 a2 K).trans (zt87 N a0 a1 a2 (fun z3 z4 => K (.tup [.one (.str z3), .one (.bool z4)]))).symm
theorem o7 (N : Nat) : SpecOK (β := β) inv Tryd.prog 7 (S7 N) := by
  refine spec_of lay_ok mixed (E := E7 N) (specs_loops (specs_cons (o27 N) (specs_cons (o28 N) (specs_cons (o9 N) (specs_cons (o29 N) specs_nil))))) muts_nil gs_nil Tryd.func7 (by kernel_rfl) 0 (by kernel_rfl) trivial fun args K r h => ?_
  unfold S7 VS7 at h
  split at h
  · exact (e7_0 N _ _ _ _).trans h
  · cases h
def VS8 (N : Nat) (zq88 : (a0 : Int) → (a1 : Int) → (a2 : Int) → (k : Int → O β) → O β) : Rv.Spec β := fun args K => match args with
  | [.v (.agg [.int .i64 a0, .int .i64 a1]), .v (.one (.int .i64 a2))] => zq88 a0 a1 a2 (fun z3 => K (.v (.one (.int .i64 z3))))
  | _ => none
def S8 (N : Nat) : Rv.Spec β := VS8 N (zj88 N)
def VE8 (N : Nat) (zq32 : (a0 : Int) → (a1 : Int) → (a2 : Int) → (k0 : Int → Int → O β) → (k1 : Int → Int → Int → Int → Int → Mp → O β) → O β) (zq47 : Nat → Int → Int → Int → Int → Int → Mp → (Int → Int → Int → Int → Mp → O β) → O β) : Env β := ⟨[], [], [], [(25, VS25 N zq32), (30, VS30 N zq47)], ⟨[], [], [], []⟩⟩
def E8 (N : Nat) : Env β := VE8 N (zj32 N) (zj47 N)
def zb88 (N : Nat) (zq32 : (a0 : Int) → (a1 : Int) → (a2 : Int) → (k0 : Int → Int → O β) → (k1 : Int → Int → Int → Int → Int → Mp → O β) → O β) (zq47 : Nat → Int → Int → Int → Int → Int → Mp → (Int → Int → Int → Int → Mp → O β) → O β) (a0 : Int) (a1 : Int) (a2 : Int) (k : Int → O β) : O β :=
zq32 a0 a1 a2 (fun r4_0 r4_1 =>
k (-1)) (fun r5_0 r5_1 r5_3 r5_4 r5_5 r5_6 =>
zq47 N r5_0 r5_1 r5_3 r5_4 r5_5 r5_6 (fun r6_0 r6_1 r6_2 r6_3 r6_4 =>
k r6_0))
theorem zt88 (N : Nat) (a0 : Int) (a1 : Int) (a2 : Int) (k : Int → O β) : zj88 N a0 a1 a2 k = zb88 N (zj32 N) (zj47 N) a0 a1 a2 k := by
  unfold zj88 zb88
  rfl
theorem ve8_0 (N : Nat) (zq32 : (a0 : Int) → (a1 : Int) → (a2 : Int) → (k0 : Int → Int → O β) → (k1 : Int → Int → Int → Int → Int → Mp → O β) → O β) (zq47 : Nat → Int → Int → Int → Int → Int → Mp → (Int → Int → Int → Int → Mp → O β) → O β)  (a0 : Int) (a1 : Int) (a2 : Int) (K : TV → O β) : evFn lay (VE8 N zq32 zq47) Tryd.f8 [.v (.agg [.int .i64 a0, .int .i64 a1]), .v (.one (.int .i64 a2))] K = zb88 N zq32 zq47 a0 a1 a2 (fun z3 => K (.v (.one (.int .i64 z3)))) := by kernel_rfl
theorem e8_0 (N : Nat)  (a0 : Int) (a1 : Int) (a2 : Int) (K : TV → O β) : evFn lay (E8 N) Tryd.f8 [.v (.agg [.int .i64 a0, .int .i64 a1]), .v (.one (.int .i64 a2))] K = zj88 N a0 a1 a2 (fun z3 => K (.v (.one (.int .i64 z3)))) := (ve8_0 N (zj32 N) (zj47 N) a0 a1 a2 K).trans (zt88 N a0 a1 a2 (fun z3 => K (.v (.one (.int .i64 z3))))).symm
theorem o8 (N : Nat) : SpecOK (β := β) inv Tryd.prog 8 (S8 N) := by
  refine spec_of lay_ok mixed (E := E8 N) (specs_loops specs_nil) muts_nil (gs_cons (o25 N) (gs_cons (o30 N) gs_nil)) Tryd.func8 (by kernel_rfl) 0 (by kernel_rfl) trivial fun args K r h => ?_
  unfold S8 VS8 at h
  split at h
  · exact (e8_0 N _ _ _ _).trans h
  · cases h
def VSF62 (N : Nat) (zq90 : Nat → ByteArray → (Tr → ByteArray → O β) → O β) (G : Nat) : Rv.Spec β := fun args K => match args with
  | [.v (.one (.str a0))] => zq90 G a0 (fun z1 z2 => K (.tup [.one (.tr true z1), .one (.str z2)]))
  | _ => none
def SF62 (N : Nat) (G : Nat) : Rv.Spec β := VSF62 N (zj90 N) G
def VS62 (N : Nat) (zq90 : Nat → ByteArray → (Tr → ByteArray → O β) → O β) : Rv.Spec β := VSF62 N zq90 N
def S62 (N : Nat) : Rv.Spec β := SF62 N N
def VE62 (N : Nat) (zq90 : Nat → ByteArray → (Tr → ByteArray → O β) → O β) (G : Nat) : Env β := ⟨[(76, S76 N), (62, VSF62 N zq90 G)], [], [], [], ⟨[], [], [], []⟩⟩
def E62 (N : Nat) (G : Nat) : Env β := VE62 N (zj90 N) G
def zb89 (N : Nat) (self : ByteArray → (Tr → ByteArray → O β) → O β) (a0 : ByteArray) (k : Tr → ByteArray → O β) : O β :=
(cond ((a0.toList == ByteArray.empty.toList))
(k Tr.nil ByteArray.empty)
((gd ((decide (0 < (a0.size : Int))))
((cond (((bt a0 0) == 48))
((gd ((decide (1 ≤ (a0.size : Int))))
(k ((Tr.node ((bt a0 0)) 0 Tr.nil Tr.nil)) ((a0.extract (Int.toNat 1) a0.size)))))
((cond (((bt a0 0) == 49))
((gd ((decide (1 ≤ (a0.size : Int))))
(k ((Tr.node ((bt a0 0)) 0 Tr.nil Tr.nil)) ((a0.extract (Int.toNat 1) a0.size)))))
((cond (((bt a0 0) != 65))
((cond (((bt a0 0) != 66))
(k Tr.nil ByteArray.empty)
((cond ((decide ((a0.size : Int) < 2)))
(k Tr.nil ByteArray.empty)
((gd ((decide (1 < (a0.size : Int))))
(strings_IndexByte N ((strOf [48, 49, 50, 51, 52, 53, 54, 55, 56, 57, 97, 98, 99, 100, 101, 102])) ((bt a0 1)) fun r3 =>
(cond ((decide (r3 < 0)))
(k Tr.nil ByteArray.empty)
((gd ((decide (2 ≤ (a0.size : Int))))
(self ((a0.extract (Int.toNat 2) a0.size)) fun r4 r5 =>
(cond ((Tr.isNil r4))
(k Tr.nil ByteArray.empty)
(self r5 fun r6 r7 =>
(cond ((Tr.isNil r6))
(k Tr.nil ByteArray.empty)
(k ((Tr.node ((bt a0 0)) r3 r4 r6)) r7)))))))))))))))
((cond ((decide ((a0.size : Int) < 2)))
(k Tr.nil ByteArray.empty)
((gd ((decide (1 < (a0.size : Int))))
(strings_IndexByte N ((strOf [48, 49, 50, 51, 52, 53, 54, 55, 56, 57, 97, 98, 99, 100, 101, 102])) ((bt a0 1)) fun r8 =>
(cond ((decide (r8 < 0)))
(k Tr.nil ByteArray.empty)
((gd ((decide (2 ≤ (a0.size : Int))))
(self ((a0.extract (Int.toNat 2) a0.size)) fun r9 r10 =>
(cond ((Tr.isNil r9))
(k Tr.nil ByteArray.empty)
(self r10 fun r11 r12 =>
(cond ((Tr.isNil r11))
(k Tr.nil ByteArray.empty)
(k ((Tr.node ((bt a0 0)) r8 r9 r11)) r12))))))))))))))))))))))
theorem zt89 (N : Nat) (self : ByteArray → (Tr → ByteArray → O β) → O β) (a0 : ByteArray) (k : Tr → ByteArray → O β) : zj89 N self a0 k = zb89 N self a0 k := by
  unfold zj89 zb89
  rfl
theorem ve62_0 (N : Nat) (zq90 : Nat → ByteArray → (Tr → ByteArray → O β) → O β) (G : Nat)  (a0 : ByteArray) (K : TV → O β) : evFn lay (VE62 N zq90 G) Tryd.f62 [.v (.one (.str a0))] K = zb89 N (zq90 G) a0 (fun z1 z2 => K (.tup [.one (.tr true z1), .one (.str z2)])) := by kernel_rfl
theorem e62_0 (N : Nat) (G : Nat)  (a0 : ByteArray) (K : TV → O β) : evFn lay (E62 N G) Tryd.f62 [.v (.one (.str a0))] K = zj90 N (G + 1) a0 (fun z1 z2 => K (.tup [.one (.tr true z1), .one (.str z2)])) := (ve62_0 N (zj90 N) G a0 K).trans (zt89 N (zj90 N G) a0 (fun z1 z2 => K (.tup [.one (.tr true z1), .one (.str z2)]))).symm
theorem z62 (N : Nat) : ∀ args K r, SF62 (β := β) N 0 args K = some r → (none : O β) = some r := by
  intro args K r h
  unfold SF62 VSF62 at h
  split at h <;> exact h
theorem of62 (N : Nat) : ∀ G, SpecOK (β := β) inv Tryd.prog 62 (SF62 N G) := by
  intro G
  induction G with
  | zero => exact s_zero Tryd.func62 (by kernel_rfl) (z62 N)
  | succ G ih =>
    refine spec_of lay_ok mixed (E := E62 N G) (specs_loops (specs_cons (o76 N) (specs_cons ih specs_nil))) muts_nil gs_nil Tryd.func62 (by kernel_rfl) 0 (by kernel_rfl) trivial fun args K r h => ?_
    unfold SF62 VSF62 at h
    split at h
    · exact (e62_0 N G _ _).trans h
    · cases h
theorem o62 (N : Nat) : SpecOK (β := β) inv Tryd.prog 62 (S62 N) := of62 N N
def VS32 (N : Nat) (zq92 : (a0 : ByteArray) → (k : Tr → Bool → O β) → O β) : Rv.Spec β := fun args K => match args with
  | [.v (.one (.str a0))] => zq92 a0 (fun z1 z2 => K (.tup [.one (.tr true z1), .one (.bool z2)]))
  | _ => none
def S32 (N : Nat) : Rv.Spec β := VS32 N (zj92 N)
def VE32 (N : Nat) (zq90 : Nat → ByteArray → (Tr → ByteArray → O β) → O β) : Env β := ⟨[(62, VS62 N zq90)], [], [], [], ⟨[], [], [], []⟩⟩
def E32 (N : Nat) : Env β := VE32 N (zj90 N)
def zb92 (N : Nat) (zq90 : Nat → ByteArray → (Tr → ByteArray → O β) → O β) (a0 : ByteArray) (k : Tr → Bool → O β) : O β :=
(cond ((decide ((a0.size : Int) > 100)))
(k Tr.nil false)
(zq90 N a0 fun r3 r4 =>
(cond ((!(Tr.isNil r3)))
(k r3 ((r4.toList == ByteArray.empty.toList)))
(k r3 false))))
theorem zt92 (N : Nat) (a0 : ByteArray) (k : Tr → Bool → O β) : zj92 N a0 k = zb92 N (zj90 N) a0 k := by
  unfold zj92 zb92
  rfl
theorem ve32_0 (N : Nat) (zq90 : Nat → ByteArray → (Tr → ByteArray → O β) → O β)  (a0 : ByteArray) (K : TV → O β) : evFn lay (VE32 N zq90) Tryd.f32 [.v (.one (.str a0))] K = zb92 N zq90 a0 (fun z1 z2 => K (.tup [.one (.tr true z1), .one (.bool z2)])) := by kernel_rfl
theorem e32_0 (N : Nat)  (a0 : ByteArray) (K : TV → O β) : evFn lay (E32 N) Tryd.f32 [.v (.one (.str a0))] K = zj92 N a0 (fun z1 z2 => K (.tup [.one (.tr true z1), .one (.bool z2)])) := (ve32_0 N (zj90 N) a0 K).trans (zt92 N a0 (fun z1 z2 => K (.tup [.one (.tr true z1), .one (.bool z2)]))).symm
theorem o32 (N : Nat) : SpecOK (β := β) inv Tryd.prog 32 (S32 N) := by
  refine spec_of lay_ok mixed (E := E32 N) (specs_loops (specs_cons (o62 N) specs_nil)) muts_nil gs_nil Tryd.func32 (by kernel_rfl) 0 (by kernel_rfl) trivial fun args K r h => ?_
  unfold S32 VS32 at h
  split at h
  · exact (e32_0 N _ _).trans h
  · cases h
def VS33 (N : Nat) (zq93 : (a0 : Int) → (a1 : Int) → (k : Bool → O β) → O β) : Rv.Spec β := fun args K => match args with
  | [.v (.one (.int .i64 a0)), .v (.one (.int .i64 a1))] => zq93 a0 a1 (fun z2 => K (.v (.one (.bool z2))))
  | _ => none
def S33 (N : Nat) : Rv.Spec β := VS33 N (zj93 N)
def VE33 (N : Nat) : Env β := ⟨[], [], [], [], ⟨[], [], [], []⟩⟩
def E33 (N : Nat) : Env β := VE33 N
def zb93 (N : Nat) (a0 : Int) (a1 : Int) (k : Bool → O β) : O β :=
(cond ((decide (a1 ≥ 0)))
((gd ((decide (0 ≤ a0)))
(k ((decide (a1 < (shlI .i64 1 a0)))))))
(k false))
theorem zt93 (N : Nat) (a0 : Int) (a1 : Int) (k : Bool → O β) : zj93 N a0 a1 k = zb93 N a0 a1 k := by
  unfold zj93 zb93
  rfl
theorem ve33_0 (N : Nat)  (a0 : Int) (a1 : Int) (K : TV → O β) : evFn lay (VE33 N) Tryd.f33 [.v (.one (.int .i64 a0)), .v (.one (.int .i64 a1))] K = zb93 N a0 a1 (fun z2 => K (.v (.one (.bool z2)))) := by kernel_rfl
theorem e33_0 (N : Nat)  (a0 : Int) (a1 : Int) (K : TV → O β) : evFn lay (E33 N) Tryd.f33 [.v (.one (.int .i64 a0)), .v (.one (.int .i64 a1))] K = zj93 N a0 a1 (fun z2 => K (.v (.one (.bool z2)))) := (ve33_0 N a0 a1 K).trans (zt93 N a0 a1 (fun z2 => K (.v (.one (.bool z2))))).symm
theorem o33 (N : Nat) : SpecOK (β := β) inv Tryd.prog 33 (S33 N) := by
  refine spec_of lay_ok mixed (E := E33 N) (specs_loops specs_nil) muts_nil gs_nil Tryd.func33 (by kernel_rfl) 0 (by kernel_rfl) trivial fun args K r h => ?_
  unfold S33 VS33 at h
  split at h
  · exact (e33_0 N _ _ _).trans h
  · cases h
end Go.Proofs.YtddflpokemgnmaaDoor
