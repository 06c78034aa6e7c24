/- The texts of the functions that the claims reach: plain Lean, no program. -/
import Derived.Test.YtfdggelojmofmaaRvLib
namespace Go.Proofs.Ytfdggelojmofmaa
open Go.Rv
set_option linter.unusedVariables false
set_option maxRecDepth 100000
/-! loop.example/g03403/laws.toTable -/
def laws_toTable {β : Type} (N : Nat) (a0 : Int) (a1 : Int) (k : Int → Int → Option β) : Option β :=
k a0 a1
/-! loop.example/g03403/spec.l1In -/
def spec_l1In {β : Type} (N : Nat) (a0 : Int) (a1 : Int) (a2 : Int) (k : Bool → Option β) : Option β :=
(cond ((decide (a0 ≥ a1)))
(k ((decide (a0 ≤ a2))))
(k false))
/-! loop.example/g03403/spec.IsTable -/
def spec_IsTable {β : Type} (N : Nat) (a0 : Int) (a1 : Int) (k : Bool → Option β) : Option β :=
spec_l1In N a0 0 5 fun r3 =>
(cond r3
((gd ((decide (0 ≤ a0)))
((gd ((decide (0 ≤ (shlI .u64 1 a0))))
(spec_l1In N a1 0 ((w64 ((shlI .i64 1 (shlI .u64 1 a0)) - 1))) fun r4 =>
k r4)))))
(k false))
/-! loop.example/g03403/spec.l4Perms -/
def spec_l4Perms_l2b {β : Type} (N : Nat)  (v0 : Int) (v1 : List Int) (v2 : Int) (v3 : Bool) (v4 : Int) (v5 : List (List Int)) (rec_ : Int → List Int → Int → Bool → Int → List (List Int) → Option β) (k0 : Int → List Int → Int → Bool → List (List Int) → Option β) : Option β :=
(cond ((decide (v4 < (v1.length : Int))))
((cond v3
(rec_ v0 v1 v2 true ((w64 (v4 + 1))) v5)
((gd ((decide (0 ≤ v4)))
((gd ((decide (v4 < (v1.length : Int))))
(rec_ v0 v1 v2 (((rd 0 v1 v4) == v2)) ((w64 (v4 + 1))) v5)))))))
(k0 v0 v1 v2 v3 v5))
def spec_l4Perms_l2 {β : Type} (N : Nat)  : Nat → Int → List Int → Int → Bool → Int → List (List Int) → (Int → List Int → Int → Bool → List (List Int) → Option β) → Option β
  | 0, _, _, _, _, _, _, _ => none
  | F + 1, v0, v1, v2, v3, v4, v5, k0 => spec_l4Perms_l2b N  v0 v1 v2 v3 v4 v5 (fun v0 v1 v2 v3 v4 v5 => spec_l4Perms_l2 N  F v0 v1 v2 v3 v4 v5 k0) k0
def spec_l4Perms_l0b {β : Type} (N : Nat) (self : Int → List Int → (List (List Int) → Option β) → Option β)  (v0 : Int) (v1 : List Int) (v2 : Int) (v3 : List (List Int)) (rec_ : Int → List Int → Int → List (List Int) → Option β) (k0 : List (List Int) → Option β) : Option β :=
(cond ((decide (v2 < v0)))
(spec_l4Perms_l2 N  N v0 v1 v2 false 0 v3 (fun e3_0 e3_1 e3_2 e3_3 e3_4 =>
(cond (!e3_3)
((gd ((decide (((([] : List Int)).length + e3_1.length) * 8 ≤ 140737488355328)))
((gd ((decide ((((([] : List Int) ++ e3_1)).length + ((([] : List Int) ++ [e3_2])).length) * 8 ≤ 140737488355328)))
(self e3_0 (((([] : List Int) ++ e3_1) ++ (([] : List Int) ++ [e3_2]))) fun r4 =>
(gd ((decide ((e3_4.length + r4.length) * 24 ≤ 140737488355328)))
(rec_ e3_0 e3_1 ((w64 (e3_2 + 1))) ((e3_4 ++ r4)))))))))
(rec_ e3_0 e3_1 ((w64 (e3_2 + 1))) e3_4))))
(k0 v3))
def spec_l4Perms_l0 {β : Type} (N : Nat) (self : Int → List Int → (List (List Int) → Option β) → Option β)  : Nat → Int → List Int → Int → List (List Int) → (List (List Int) → Option β) → Option β
  | 0, _, _, _, _, _ => none
  | F + 1, v0, v1, v2, v3, k0 => spec_l4Perms_l0b N self  v0 v1 v2 v3 (fun v0 v1 v2 v3 => spec_l4Perms_l0 N self  F v0 v1 v2 v3 k0) k0
def spec_l4Perms_b {β : Type} (N : Nat) (self : Int → List Int → (List (List Int) → Option β) → Option β) (a0 : Int) (a1 : List Int) (k : List (List Int) → Option β) : Option β :=
(cond (((a1.length : Int) == a0))
(k ((([] : List (List Int)) ++ [a1])))
(spec_l4Perms_l0 N self  N a0 a1 0 (([] : List (List Int))) (fun e5_0 =>
k e5_0)))
def spec_l4Perms_f {β : Type} (N : Nat) : Nat → Int → List Int → (List (List Int) → Option β) → Option β
  | 0, _, _, _ => none
  | F + 1, a0, a1, k => spec_l4Perms_b N (spec_l4Perms_f N F) a0 a1 k
def spec_l4Perms {β : Type} (N : Nat) (a0 : Int) (a1 : List Int) (k : List (List Int) → Option β) : Option β := spec_l4Perms_f N N a0 a1 k
/-! loop.example/g03403/spec.l3Perm -/
def spec_l3Perm_l2b {β : Type} (N : Nat)  (v0 : List Int) (v1 : Int) (v2 : Int) (v3 : Int) (rec_ : List Int → Int → Int → Int → Option β) (k0 : Bool → Option β) (k1 : List Int → Int → Int → Option β) : Option β :=
(cond ((decide (v3 < v2)))
((gd ((decide (0 ≤ v3)))
((gd ((decide (v3 < (v0.length : Int))))
((gd ((decide (0 ≤ v2)))
((gd ((decide (v2 < (v0.length : Int))))
((cond (((rd 0 v0 v3) == (rd 0 v0 v2)))
(k0 false)
(rec_ v0 v1 v2 ((w64 (v3 + 1))))))))))))))
(k1 v0 v1 v2))
def spec_l3Perm_l2 {β : Type} (N : Nat)  : Nat → List Int → Int → Int → Int → (Bool → Option β) → (List Int → Int → Int → Option β) → Option β
  | 0, _, _, _, _, _, _ => none
  | F + 1, v0, v1, v2, v3, k0, k1 => spec_l3Perm_l2b N  v0 v1 v2 v3 (fun v0 v1 v2 v3 => spec_l3Perm_l2 N  F v0 v1 v2 v3 k0 k1) k0 k1
def spec_l3Perm_l0b {β : Type} (N : Nat)  (v0 : List Int) (v1 : Int) (v2 : Int) (rec_ : List Int → Int → Int → Option β) (k0 : Bool → Option β) (k1 : List Int → Int → Option β) : Option β :=
(cond ((decide (v2 < (v0.length : Int))))
((gd ((decide (0 ≤ v2)))
((gd ((decide (v2 < (v0.length : Int))))
(spec_l1In N ((rd 0 v0 v2)) 0 ((w64 (v1 - 1))) fun r3 =>
(cond (!r3)
(k0 false)
(spec_l3Perm_l2 N  N v0 v1 v2 0 (fun e4_0 =>
k0 e4_0) (fun e5_0 e5_1 e5_2 =>
rec_ e5_0 e5_1 ((w64 (e5_2 + 1)))))))))))
(k1 v0 v1))
def spec_l3Perm_l0 {β : Type} (N : Nat)  : Nat → List Int → Int → Int → (Bool → Option β) → (List Int → Int → Option β) → Option β
  | 0, _, _, _, _, _ => none
  | F + 1, v0, v1, v2, k0, k1 => spec_l3Perm_l0b N  v0 v1 v2 (fun v0 v1 v2 => spec_l3Perm_l0 N  F v0 v1 v2 k0 k1) k0 k1
def spec_l3Perm {β : Type} (N : Nat) (a0 : List Int) (a1 : Int) (k : Bool → Option β) : Option β :=
spec_l3Perm_l0 N  N a0 a1 0 (fun e6_0 =>
k e6_0) (fun e7_0 e7_1 =>
k (((e7_0.length : Int) == e7_1)))
/-! loop.example/g03403/spec.l2Full -/
def spec_l2Full {β : Type} (N : Nat) (a0 : Int) (k : Int → Option β) : Option β :=
(gd ((decide (0 ≤ a0)))
((gd ((decide (0 ≤ (shlI .u64 1 a0))))
(k ((w64 ((shlI .i64 1 (shlI .u64 1 a0)) - 1)))))))
/-! loop.example/g03403/spec.IsConstant -/
def spec_IsConstant {β : Type} (N : Nat) (a0 : Int) (a1 : Int) (k : Bool → Option β) : Option β :=
spec_IsTable N a0 a1 fun r3 =>
(cond r3
((cond ((a1 == 0))
(k true)
(spec_l2Full N a0 fun r4 =>
k ((a1 == r4)))))
(k false))
/-! loop.example/g03403/spec.l3Cube -/
def spec_l3Cube_l0b {β : Type} (N : Nat)  (v0 : Int) (v1 : Int) (v2 : Int) (v3 : Int) (v4 : Int) (v5 : Int) (rec_ : Int → Int → Int → Int → Int → Int → Option β) (k0 : Int → Option β) (k1 : Int → Option β) : Option β :=
(gd ((decide (0 ≤ v4)))
((cond ((decide (v3 < (shlI .i64 1 v4))))
((cond (((bits .and .i64 v3 v0) != v1))
(rec_ v0 v1 v2 ((w64 (v3 + 1))) v4 v5)
((gd ((decide (0 ≤ v3)))
((cond ((decide (v2 ≥ 0)))
((cond ((v2 != (bits .and .i64 (shrI .i64 v5 v3) 1)))
(k0 2)
(rec_ v0 v1 ((bits .and .i64 (shrI .i64 v5 v3) 1)) ((w64 (v3 + 1))) v4 v5)))
(rec_ v0 v1 ((bits .and .i64 (shrI .i64 v5 v3) 1)) ((w64 (v3 + 1))) v4 v5)))))))
(k1 v2))))
def spec_l3Cube_l0 {β : Type} (N : Nat)  : Nat → Int → Int → Int → Int → Int → Int → (Int → Option β) → (Int → Option β) → Option β
  | 0, _, _, _, _, _, _, _, _ => none
  | F + 1, v0, v1, v2, v3, v4, v5, k0, k1 => spec_l3Cube_l0b N  v0 v1 v2 v3 v4 v5 (fun v0 v1 v2 v3 v4 v5 => spec_l3Cube_l0 N  F v0 v1 v2 v3 v4 v5 k0 k1) k0 k1
def spec_l3Cube {β : Type} (N : Nat) (a0 : Int) (a1 : Int) (a2 : Int) (a3 : Int) (k : Int → Option β) : Option β :=
spec_l3Cube_l0 N  N a2 a3 (-1) 0 a0 a1 (fun e5_0 =>
k e5_0) (fun e6_0 =>
k e6_0)
/-! loop.example/g03403/spec.l19Word -/
def spec_l19Word_l0b {β : Type} (N : Nat)  (v0 : Int) (v1 : Int) (v2 : Int) (v3 : Int) (v4 : Int) (v5 : Int) (rec_ : Int → Int → Int → Int → Int → Int → Option β) (k0 : Int → Option β) : Option β :=
(gd ((decide (0 ≤ v4)))
((cond ((decide (v3 < (shlI .i64 1 v4))))
((gd ((decide (0 ≤ (w64 ((w64 (v3 - (bits .and .i64 v3 v0))) + v1)))))
((gd ((decide (0 ≤ v3)))
(rec_ v0 v1 ((bits .or .i64 v2 (shlI .i64 (bits .and .i64 (shrI .i64 v5 (w64 ((w64 (v3 - (bits .and .i64 v3 v0))) + v1))) 1) v3))) ((w64 (v3 + 1))) v4 v5)))))
(k0 v2))))
def spec_l19Word_l0 {β : Type} (N : Nat)  : Nat → Int → Int → Int → Int → Int → Int → (Int → Option β) → Option β
  | 0, _, _, _, _, _, _, _ => none
  | F + 1, v0, v1, v2, v3, v4, v5, k0 => spec_l19Word_l0b N  v0 v1 v2 v3 v4 v5 (fun v0 v1 v2 v3 v4 v5 => spec_l19Word_l0 N  F v0 v1 v2 v3 v4 v5 k0) k0
def spec_l19Word {β : Type} (N : Nat) (a0 : Int) (a1 : Int) (a2 : Int) (a3 : Int) (k : Int → Option β) : Option β :=
spec_l19Word_l0 N  N a2 a3 0 0 a0 a1 (fun e5_0 =>
k e5_0)
/-! loop.example/g03403/spec.l19Build -/
def spec_l19Build_l0b {β : Type} (N : Nat)  (v0 : List Int) (v1 : Int) (v2 : Int) (v3 : Int) (v4 : Int) (v5 : Int) (v6 : Int) (v7 : List (Int × Int × Int)) (v8 : List Int) (v9 : Int) (v10 : Int) (rec_ : List Int → Int → Int → Int → Int → Int → Int → List (Int × Int × Int) → List Int → Int → Int → Option β) (k0 : Int → List (Int × Int × Int) → List Int → Option β) (k1 : List Int → Int → Int → Int → Int → Int → List (Int × Int × Int) → List Int → Int → Int → Option β) : Option β :=
(cond ((decide (v6 < (v8.length : Int))))
((gd ((decide (0 ≤ v6)))
((gd ((decide (v6 < (v8.length : Int))))
((cond (((rd 0 v8 v6) == v5))
(k0 v6 v7 v8)
(rec_ v0 v1 v2 v3 v4 v5 ((w64 (v6 + 1))) v7 v8 v9 v10)))))))
(k1 v0 v1 v2 v3 v4 v5 v7 v8 v9 v10))
def spec_l19Build_l0 {β : Type} (N : Nat)  : Nat → List Int → Int → Int → Int → Int → Int → Int → List (Int × Int × Int) → List Int → Int → Int → (Int → List (Int × Int × Int) → List Int → Option β) → (List Int → Int → Int → Int → Int → Int → List (Int × Int × Int) → List Int → Int → Int → Option β) → Option β
  | 0, _, _, _, _, _, _, _, _, _, _, _, _, _ => none
  | F + 1, v0, v1, v2, v3, v4, v5, v6, v7, v8, v9, v10, k0, k1 => spec_l19Build_l0b N  v0 v1 v2 v3 v4 v5 v6 v7 v8 v9 v10 (fun v0 v1 v2 v3 v4 v5 v6 v7 v8 v9 v10 => spec_l19Build_l0 N  F v0 v1 v2 v3 v4 v5 v6 v7 v8 v9 v10 k0 k1) k0 k1
def spec_l19Build_g0_b {β : Type} (N : Nat) (self : Int → Int → List Int → Int → Int → Int → List (Int × Int × Int) → List Int → (Int → List (Int × Int × Int) → List Int → Option β) → Option β) (a0 : Int) (a1 : Int) (a2 : List Int) (a3 : Int) (a4 : Int) (a5 : Int) (a6 : List (Int × Int × Int)) (a7 : List Int) (k0 : Int → List (Int × Int × Int) → List Int → Option β) : Option β :=
spec_l3Cube N a0 a1 a4 a5 fun r8 =>
(cond ((decide (r8 < 2)))
(k0 ((w64 (r8 - 2))) a6 a7)
((gd ((decide (0 ≤ a3)))
((gd ((decide (a3 < (a2.length : Int))))
((gd ((decide (0 ≤ (rd 0 a2 a3))))
(spec_l19Word N a0 a1 ((bits .or .i64 a4 (shlI .i64 1 (rd 0 a2 a3)))) a5 fun r9 =>
spec_l19Word N a0 a1 ((bits .or .i64 a4 (shlI .i64 1 (rd 0 a2 a3)))) ((bits .or .i64 a5 (shlI .i64 1 (rd 0 a2 a3)))) fun r10 =>
(cond ((r9 == r10))
(self a0 a1 a2 ((w64 (a3 + 1))) ((bits .or .i64 a4 (shlI .i64 1 (rd 0 a2 a3)))) a5 a6 a7 (fun r11_0 r11_1 r11_2 =>
k0 r11_0 r11_1 r11_2))
(spec_l19Word N a0 a1 a4 a5 fun r12 =>
spec_l19Build_l0 N  N a2 a3 a4 a5 ((shlI .i64 1 (rd 0 a2 a3))) r12 0 a6 a7 a0 a1 (fun e13_0 e13_1 e13_2 =>
k0 e13_0 e13_1 e13_2) (fun e14_0 e14_1 e14_2 e14_3 e14_4 e14_5 e14_6 e14_7 e14_8 e14_9 =>
self e14_8 e14_9 e14_0 ((w64 (e14_1 + 1))) ((bits .or .i64 e14_2 e14_4)) e14_3 e14_6 e14_7 (fun r15_0 r15_1 r15_2 =>
self e14_8 e14_9 e14_0 ((w64 (e14_1 + 1))) ((bits .or .i64 e14_2 e14_4)) ((bits .or .i64 e14_3 e14_4)) r15_1 r15_2 (fun r16_0 r16_1 r16_2 =>
(gd ((decide (0 ≤ e14_1)))
((gd ((decide (e14_1 < (e14_0.length : Int))))
((gd ((decide ((r16_1.length + ((([] : List (Int × Int × Int)) ++ [((rd 0 e14_0 e14_1), r15_0, r16_0)])).length) * 24 ≤ 140737488355328)))
((gd ((decide ((r16_2.length + ((([] : List Int) ++ [e14_5])).length) * 8 ≤ 140737488355328)))
(k0 ((r16_1.length : Int)) ((r16_1 ++ (([] : List (Int × Int × Int)) ++ [((rd 0 e14_0 e14_1), r15_0, r16_0)]))) ((r16_2 ++ (([] : List Int) ++ [e14_5]))))))))))))))))))))))))
def spec_l19Build_g0_f {β : Type} (N : Nat) : Nat → Int → Int → List Int → Int → Int → Int → List (Int × Int × Int) → List Int → (Int → List (Int × Int × Int) → List Int → Option β) → Option β
  | 0, _, _, _, _, _, _, _, _, _ => none
  | F + 1, a0, a1, a2, a3, a4, a5, a6, a7, k0 => spec_l19Build_g0_b N (spec_l19Build_g0_f N F) a0 a1 a2 a3 a4 a5 a6 a7 k0
def spec_l19Build_g0 {β : Type} (N : Nat) (a0 : Int) (a1 : Int) (a2 : List Int) (a3 : Int) (a4 : Int) (a5 : Int) (a6 : List (Int × Int × Int)) (a7 : List Int) (k0 : Int → List (Int × Int × Int) → List Int → Option β) : Option β := spec_l19Build_g0_f N N a0 a1 a2 a3 a4 a5 a6 a7 k0
/-! loop.example/g03403/spec.DiagramOf -/
def spec_DiagramOf {β : Type} (N : Nat) (a0 : Int) (a1 : Int) (a2 : List Int) (k : List (Int × Int × Int) → Bool → Option β) : Option β :=
spec_IsTable N a0 a1 fun r5 =>
(cond (!r5)
(k (([] : List (Int × Int × Int))) false)
(spec_l3Perm N a2 a0 fun r6 =>
(cond (!r6)
(k (([] : List (Int × Int × Int))) false)
(spec_IsConstant N a0 a1 fun r7 =>
(cond r7
(k (([] : List (Int × Int × Int))) true)
(spec_l19Build_g0 N a0 a1 a2 0 0 0 (([] : List (Int × Int × Int))) (([] : List Int)) (fun r8_0 r8_1 r8_2 =>
k r8_1 true)))))))
/-! loop.example/g03403/spec.SizeOfDiagram -/
def spec_SizeOfDiagram {β : Type} (N : Nat) (a0 : Int) (a1 : Int) (a2 : List Int) (k : Int → Option β) : Option β :=
spec_DiagramOf N a0 a1 a2 fun r4 r5 =>
(cond (!r5)
(k (-1))
(k ((r4.length : Int))))
/-! loop.example/g03403/spec.LeastOrder -/
def spec_LeastOrder_l0b {β : Type} (N : Nat)  (v0 : Int) (v1 : Int) (v2 : Int) (v3 : Int) (v4 : Int) (v5 : List (List Int)) (rec_ : Int → Int → Int → Int → Int → List (List Int) → Option β) (k0 : Int → Int → List (List Int) → Option β) : Option β :=
(cond ((decide (v2 < (v5.length : Int))))
((gd ((decide (0 ≤ v2)))
((gd ((decide (v2 < (v5.length : Int))))
(spec_SizeOfDiagram N v3 v4 ((rd [] v5 v2)) fun r8 =>
(cond ((decide (r8 < v1)))
(rec_ v2 r8 ((w64 (v2 + 1))) v3 v4 v5)
(rec_ v0 v1 ((w64 (v2 + 1))) v3 v4 v5)))))))
(k0 v0 v1 v5))
def spec_LeastOrder_l0 {β : Type} (N : Nat)  : Nat → Int → Int → Int → Int → Int → List (List Int) → (Int → Int → List (List Int) → Option β) → Option β
  | 0, _, _, _, _, _, _, _ => none
  | F + 1, v0, v1, v2, v3, v4, v5, k0 => spec_LeastOrder_l0b N  v0 v1 v2 v3 v4 v5 (fun v0 v1 v2 v3 v4 v5 => spec_LeastOrder_l0 N  F v0 v1 v2 v3 v4 v5 k0) k0
def spec_LeastOrder {β : Type} (N : Nat) (a0 : Int) (a1 : Int) (k : List Int → Int → Bool → Option β) : Option β :=
spec_IsTable N a0 a1 fun r5 =>
(cond (!r5)
(k (([] : List Int)) 0 false)
((cond ((decide (a0 > 4)))
(k (([] : List Int)) 0 false)
(spec_l4Perms N a0 (([] : List Int)) fun r6 =>
(gd ((decide (0 < (r6.length : Int))))
(spec_SizeOfDiagram N a0 a1 ((rd [] r6 0)) fun r7 =>
spec_LeastOrder_l0 N  N 0 r7 1 a0 a1 r6 (fun e9_0 e9_1 e9_2 =>
(gd ((decide (0 ≤ e9_0)))
((gd ((decide (e9_0 < (e9_2.length : Int))))
(k ((rd [] e9_2 e9_0)) e9_1 true)))))))))))
/-! loop.example/g03403/spec.ClaimOfOrder -/
def spec_ClaimOfOrder {β : Type} (N : Nat) (a0 : Int) (a1 : Int) (k : Int → Int → Int → Int → Int → ByteArray → List Int → Bool → Option β) : Option β :=
spec_LeastOrder N a0 a1 fun r10 r11 r12 =>
(cond (!r12)
(k 0 0 0 0 0 ByteArray.empty (([] : List Int)) false)
(k 6 a0 a1 r11 0 ByteArray.empty r10 true))
/-! loop.example/g03403/impl.isBits -/
def impl_isBits {β : Type} (N : Nat) (a0 : Int) (k : Bool → Option β) : Option β :=
(cond ((decide (a0 ≥ 0)))
(k ((decide (a0 ≤ 5))))
(k false))
/-! (loop.example/g03403/impl.Table).size -/
def impl_Table_size {β : Type} (N : Nat) (a0 : Int) (a1 : Int) (k : Int → Option β) : Option β :=
(gd ((decide (0 ≤ a0)))
(k ((shlI .i64 1 a0))))
/-! loop.example/g03403/impl.IsTable -/
def impl_IsTable {β : Type} (N : Nat) (a0 : Int) (a1 : Int) (k : Bool → Option β) : Option β :=
impl_isBits N a0 fun r3 =>
(cond r3
((cond ((decide (a1 ≥ 0)))
(impl_Table_size N a0 a1 fun r4 =>
(gd ((decide (0 ≤ r4)))
(k (((shrI .i64 a1 r4) == 0)))))
(k false)))
(k false))
/-! loop.example/g03403/impl.isSmall -/
def impl_isSmall {β : Type} (N : Nat) (a0 : Int) (a1 : Int) (a2 : Int) (k : Bool → Option β) : Option β :=
impl_IsTable N a0 a1 fun r4 =>
(cond r4
(k ((decide (a0 ≤ a2))))
(k false))
/-! loop.example/g03403/impl.permutations$1 -/
def impl_permutations_1_l0b {β : Type} (N : Nat) (self : Int → List Int → List (List Int) → List Bool → (Int → List Int → List (List Int) → List Bool → Option β) → Option β)  (v0 : Int) (v1 : Int) (v2 : Int) (v3 : List Int) (v4 : List (List Int)) (v5 : List Bool) (rec_ : Int → Int → Int → List Int → List (List Int) → List Bool → Option β) (k0 : Int → List Int → List (List Int) → List Bool → Option β) : Option β :=
(cond ((decide (v1 < v0)))
((gd ((decide (0 ≤ v1)))
((gd ((decide (v1 < (v5.length : Int))))
((cond ((!(rd false v5 v1)))
((gd ((decide (0 ≤ v1)))
((gd ((decide (v1 < (v5.length : Int))))
((gd ((decide ((v3.length + ((([] : List Int) ++ [v1])).length) * 8 ≤ 140737488355328)))
(self v2 ((v3 ++ (([] : List Int) ++ [v1]))) v4 ((wr v5 v1 true)) (fun r2_0 r2_1 r2_2 r2_3 =>
(gd ((decide (0 ≤ (w64 ((r2_1.length : Int) - 1)))))
((gd ((decide ((w64 ((r2_1.length : Int) - 1)) ≤ (r2_1.length : Int))))
((gd ((decide (0 ≤ v1)))
((gd ((decide (v1 < (r2_3.length : Int))))
(rec_ v0 ((w64 (v1 + 1))) r2_0 ((List.drop 0 (List.take (Int.toNat (w64 ((r2_1.length : Int) - 1))) r2_1))) r2_2 ((wr r2_3 v1 false))))))))))))))))))
(rec_ v0 ((w64 (v1 + 1))) v2 v3 v4 v5)))))))
(k0 v2 v3 v4 v5))
def impl_permutations_1_l0 {β : Type} (N : Nat) (self : Int → List Int → List (List Int) → List Bool → (Int → List Int → List (List Int) → List Bool → Option β) → Option β)  : Nat → Int → Int → Int → List Int → List (List Int) → List Bool → (Int → List Int → List (List Int) → List Bool → Option β) → Option β
  | 0, _, _, _, _, _, _, _ => none
  | F + 1, v0, v1, v2, v3, v4, v5, k0 => impl_permutations_1_l0b N self  v0 v1 v2 v3 v4 v5 (fun v0 v1 v2 v3 v4 v5 => impl_permutations_1_l0 N self  F v0 v1 v2 v3 v4 v5 k0) k0
def impl_permutations_1_g0_b {β : Type} (N : Nat) (self : Int → List Int → List (List Int) → List Bool → (Int → List Int → List (List Int) → List Bool → Option β) → Option β) (a0 : Int) (a1 : List Int) (a2 : List (List Int)) (a3 : List Bool) (k0 : Int → List Int → List (List Int) → List Bool → Option β) : Option β :=
(cond (((a1.length : Int) == a0))
((gd ((decide (((([] : List Int)).length + a1.length) * 8 ≤ 140737488355328)))
((gd ((decide ((a2.length + ((([] : List (List Int)) ++ [(([] : List Int) ++ a1)])).length) * 24 ≤ 140737488355328)))
(k0 a0 a1 ((a2 ++ (([] : List (List Int)) ++ [(([] : List Int) ++ a1)]))) a3)))))
(impl_permutations_1_l0 N self  N a0 0 a0 a1 a2 a3 (fun e3_0 e3_1 e3_2 e3_3 =>
k0 e3_0 e3_1 e3_2 e3_3)))
def impl_permutations_1_g0_f {β : Type} (N : Nat) : Nat → Int → List Int → List (List Int) → List Bool → (Int → List Int → List (List Int) → List Bool → Option β) → Option β
  | 0, _, _, _, _, _ => none
  | F + 1, a0, a1, a2, a3, k0 => impl_permutations_1_g0_b N (impl_permutations_1_g0_f N F) a0 a1 a2 a3 k0
def impl_permutations_1_g0 {β : Type} (N : Nat) (a0 : Int) (a1 : List Int) (a2 : List (List Int)) (a3 : List Bool) (k0 : Int → List Int → List (List Int) → List Bool → Option β) : Option β := impl_permutations_1_g0_f N N a0 a1 a2 a3 k0
/-! loop.example/g03403/impl.permutations -/
def impl_permutations {β : Type} (N : Nat) (a0 : Int) (k : List (List Int) → Option β) : Option β :=
(gd ((decide (0 ≤ a0)))
((gd ((decide (8 * a0 ≤ 281474976710656)))
((gd ((decide (0 ≤ a0)))
((gd ((decide (a0 ≤ a0)))
((gd ((decide (1 * a0 ≤ 281474976710656)))
(impl_permutations_1_g0 N a0 ((List.replicate (Int.toNat 0) (0 : Int))) (([] : List (List Int))) ((List.replicate (Int.toNat a0) false)) (fun r2_0 r2_1 r2_2 r2_3 =>
k r2_2)))))))))))
/-! (loop.example/g03403/impl.Table).not -/
def impl_Table_not {β : Type} (N : Nat) (a0 : Int) (a1 : Int) (k : Int → Int → Option β) : Option β :=
impl_Table_size N a0 a1 fun r4 =>
(gd ((decide (0 ≤ r4)))
(k a0 ((bits .xor .i64 a1 (w64 ((shlI .i64 1 r4) - 1))))))
/-! (loop.example/g03403/impl.Table).isSame -/
def impl_Table_isSame {β : Type} (N : Nat) (a0 : Int) (a1 : Int) (k : Bool → Option β) : Option β :=
(cond ((a1 == 0))
(k true)
(impl_Table_not N a0 a1 fun r3 r4 =>
k ((r4 == 0))))
/-! (loop.example/g03403/impl.Table).at -/
def impl_Table_at {β : Type} (N : Nat) (a0 : Int) (a1 : Int) (a2 : Int) (k : Int → Option β) : Option β :=
(gd ((decide (0 ≤ a2)))
(k ((bits .and .i64 (shrI .i64 a1 a2) 1))))
/-! loop.example/g03403/impl.spread -/
def impl_spread {β : Type} (N : Nat) (a0 : Int) (a1 : Int) (a2 : Int) (k : Int → Option β) : Option β :=
(gd ((decide (0 ≤ a1)))
((gd ((decide (0 ≤ a1)))
(k ((bits .or .i64 (bits .or .i64 (shlI .i64 (w64 (a0 - (bits .and .i64 a0 (w64 ((shlI .i64 1 a1) - 1))))) 1) (shlI .i64 a2 a1)) (bits .and .i64 a0 (w64 ((shlI .i64 1 a1) - 1)))))))))
/-! (loop.example/g03403/impl.Table).restrict$1 -/
def impl_Table_restrict_1 {β : Type} (N : Nat) (a0 : Int) (c0 : Int) (c1 : Int) (c2 : Int) (c3 : Int) (k : Bool → Option β) : Option β :=
impl_spread N a0 c2 c3 fun r2 =>
impl_Table_at N c0 c1 r2 fun r3 =>
k ((r3 == 1))
/-! (loop.example/g03403/impl.Table).stuck$1 -/
def impl_Table_stuck_1 {β : Type} (N : Nat) (a0 : Int) (c0 : Int) (c1 : Int) (c2 : Int) (c3 : Int) (k : Bool → Option β) : Option β :=
(gd ((decide (0 ≤ c2)))
((gd ((decide (0 ≤ c2)))
(impl_Table_at N c0 c1 ((bits .or .i64 (bits .andNot .i64 a0 (shlI .i64 1 c2)) (shlI .i64 c3 c2))) fun r2 =>
k ((r2 == 1))))))
/-! loop.example/g03403/impl.makeTable -/
def impl_makeTable_l0b {β : Type} (N : Nat) (a1 : (Int → (Bool → Option β) → Option β)) (v0 : Int) (v1 : Int) (v2 : Int) (v3 : Int) (v4 : Int) (v5 : Int) (rec_ : Int → Int → Int → Int → Int → Int → Option β) (k0 : Int → Int → Int → Int → Option β) : Option β :=
(cond ((decide (v1 < v0)))
(a1 v1 fun r4 =>
(cond r4
((gd ((decide (0 ≤ v1)))
(rec_ v0 ((w64 (v1 + 1))) v2 v3 v4 ((bits .or .i64 v5 (shlI .i64 1 v1))))))
(rec_ v0 ((w64 (v1 + 1))) v2 v3 v4 v5)))
(k0 v2 v3 v4 v5))
def impl_makeTable_l0 {β : Type} (N : Nat) (a1 : (Int → (Bool → Option β) → Option β)) : Nat → Int → Int → Int → Int → Int → Int → (Int → Int → Int → Int → Option β) → Option β
  | 0, _, _, _, _, _, _, _ => none
  | F + 1, v0, v1, v2, v3, v4, v5, k0 => impl_makeTable_l0b N a1 v0 v1 v2 v3 v4 v5 (fun v0 v1 v2 v3 v4 v5 => impl_makeTable_l0 N a1 F v0 v1 v2 v3 v4 v5 k0) k0
def impl_makeTable {β : Type} (N : Nat) (a0 : Int) (a1 : (Int → (Bool → Option β) → Option β)) (k : Int → Int → Option β) : Option β :=
(gd ((decide (0 ≤ a0)))
(impl_makeTable_l0 N a1 N ((shlI .i64 1 a0)) 0 0 0 a0 0 (fun e5_0 e5_1 e5_2 e5_3 =>
k e5_2 e5_3)))
/-! (loop.example/g03403/impl.Table).restrict -/
def impl_Table_restrict {β : Type} (N : Nat) (a0 : Int) (a1 : Int) (a2 : Int) (a3 : Int) (k : Int → Int → Option β) : Option β :=
impl_makeTable N ((w64 (a0 - 1))) (fun x0 k => impl_Table_restrict_1 N x0 a0 a1 a2 a3 k) fun r6 r7 =>
k r6 r7
/-! (loop.example/g03403/impl.Table).depends -/
def impl_Table_depends {β : Type} (N : Nat) (a0 : Int) (a1 : Int) (a2 : Int) (k : Bool → Option β) : Option β :=
impl_Table_restrict N a0 a1 a2 0 fun r4 r5 =>
impl_Table_restrict N a0 a1 a2 1 fun r6 r7 =>
k ((!((r4 == r6) && (r5 == r7))))
/-! slices.IndexFunc[[]int,int] -/
def slices_IndexFunc_Sint_int_l0b {β : Type} (N : Nat) (a1 : (Int → (Bool → Option β) → Option β)) (v0 : List Int) (v1 : Int) (v2 : Int) (rec_ : List Int → Int → Int → Option β) (k0 : Int → Option β) (k1 : Option β) : Option β :=
(cond ((decide (v2 < v1)))
((gd ((decide (0 ≤ v2)))
((gd ((decide (v2 < (v0.length : Int))))
(a1 ((rd 0 v0 v2)) fun r3 =>
(cond r3
(k0 v2)
(rec_ v0 v1 ((w64 (v2 + 1))))))))))
(k1 ))
def slices_IndexFunc_Sint_int_l0 {β : Type} (N : Nat) (a1 : (Int → (Bool → Option β) → Option β)) : Nat → List Int → Int → Int → (Int → Option β) → (Option β) → Option β
  | 0, _, _, _, _, _ => none
  | F + 1, v0, v1, v2, k0, k1 => slices_IndexFunc_Sint_int_l0b N a1 v0 v1 v2 (fun v0 v1 v2 => slices_IndexFunc_Sint_int_l0 N a1 F v0 v1 v2 k0 k1) k0 k1
def slices_IndexFunc_Sint_int {β : Type} (N : Nat) (a0 : List Int) (a1 : (Int → (Bool → Option β) → Option β)) (k : Int → Option β) : Option β :=
slices_IndexFunc_Sint_int_l0 N a1 N a0 ((a0.length : Int)) 0 (fun e4_0 =>
k e4_0) (k (-1))
/-! (loop.example/g03403/impl.Table).stuck -/
def impl_Table_stuck {β : Type} (N : Nat) (a0 : Int) (a1 : Int) (a2 : Int) (a3 : Int) (k : Int → Int → Option β) : Option β :=
impl_makeTable N a0 (fun x0 k => impl_Table_stuck_1 N x0 a0 a1 a2 a3 k) fun r6 r7 =>
k r6 r7
/-! (*loop.example/g03403/impl.diagram).walk -/
def impl_diagram_walk_g0_b {β : Type} (N : Nat) (self : Int → Int → List Int → List (Int × Int × Int) → Mp → (Int → List Int → Mp → List (Int × Int × Int) → Option β) → Option β) (a0 : Int) (a1 : Int) (a2 : List Int) (a3 : List (Int × Int × Int)) (a4 : Mp) (k0 : Int → List Int → Mp → List (Int × Int × Int) → Option β) : Option β :=
impl_Table_isSame N a0 a1 fun r4 =>
(cond r4
(impl_Table_at N a0 a1 0 fun r5 =>
k0 ((w64 ((-2) + r5))) a2 a4 a3)
((cond ((hasM ⟨true, false⟩ a4 a0 a1))
(k0 ((getM ⟨true, false⟩ a4 a0 a1)) a2 a4 a3)
(slices_IndexFunc_Sint_int N a2 (fun x0 k => impl_Table_depends N a0 a1 x0 k) fun r6 =>
(gd ((decide (0 ≤ r6)))
((gd ((decide (r6 < (a2.length : Int))))
(impl_Table_stuck N a0 a1 ((rd 0 a2 r6)) 0 fun r7 r8 =>
self r7 r8 a2 a3 a4 (fun r9_0 r9_1 r9_2 r9_3 =>
impl_Table_stuck N a0 a1 ((rd 0 a2 r6)) 1 fun r10 r11 =>
self r10 r11 r9_1 r9_3 r9_2 (fun r12_0 r12_1 r12_2 r12_3 =>
(gd ((decide ((r12_3.length + ((([] : List (Int × Int × Int)) ++ [((rd 0 a2 r6), r9_0, r12_0)])).length) * 24 ≤ 140737488355328)))
(k0 ((w64 ((((r12_3 ++ (([] : List (Int × Int × Int)) ++ [((rd 0 a2 r6), r9_0, r12_0)]))).length : Int) - 1))) r12_1 ((putM ⟨true, false⟩ r12_2 a0 a1 ((w64 ((((r12_3 ++ (([] : List (Int × Int × Int)) ++ [((rd 0 a2 r6), r9_0, r12_0)]))).length : Int) - 1))))) ((r12_3 ++ (([] : List (Int × Int × Int)) ++ [((rd 0 a2 r6), r9_0, r12_0)])))))))))))))))
def impl_diagram_walk_g0_f {β : Type} (N : Nat) : Nat → Int → Int → List Int → List (Int × Int × Int) → Mp → (Int → List Int → Mp → List (Int × Int × Int) → Option β) → Option β
  | 0, _, _, _, _, _, _ => none
  | F + 1, a0, a1, a2, a3, a4, k0 => impl_diagram_walk_g0_b N (impl_diagram_walk_g0_f N F) a0 a1 a2 a3 a4 k0
def impl_diagram_walk_g0 {β : Type} (N : Nat) (a0 : Int) (a1 : Int) (a2 : List Int) (a3 : List (Int × Int × Int)) (a4 : Mp) (k0 : Int → List Int → Mp → List (Int × Int × Int) → Option β) : Option β := impl_diagram_walk_g0_f N N a0 a1 a2 a3 a4 k0
/-! (loop.example/g03403/impl.Table).diagram -/
def impl_Table_diagram {β : Type} (N : Nat) (a0 : Int) (a1 : Int) (a2 : List Int) (k : List (Int × Int × Int) → Option β) : Option β :=
impl_diagram_walk_g0 N a0 a1 a2 (([] : List (Int × Int × Int))) (([] : Mp)) (fun r4_0 r4_1 r4_2 r4_3 =>
k r4_3)
/-! loop.example/g03403/impl.LeastOrder -/
def impl_LeastOrder_l0b {β : Type} (N : Nat)  (v0 : List Int) (v1 : Int) (v2 : Int) (v3 : Int) (v4 : Int) (v5 : Int) (v6 : List (List Int)) (rec_ : List Int → Int → Int → Int → Int → Int → List (List Int) → Option β) (k0 : List Int → Int → Option β) : Option β :=
(cond ((decide (v3 < v2)))
((gd ((decide (0 ≤ v3)))
((gd ((decide (v3 < (v6.length : Int))))
(impl_Table_diagram N v4 v5 ((rd [] v6 v3)) fun r7 =>
(cond ((decide (v1 < 0)))
(rec_ ((rd [] v6 v3)) ((r7.length : Int)) v2 ((w64 (v3 + 1))) v4 v5 v6)
((cond ((decide ((r7.length : Int) < v1)))
(rec_ ((rd [] v6 v3)) ((r7.length : Int)) v2 ((w64 (v3 + 1))) v4 v5 v6)
(rec_ v0 v1 v2 ((w64 (v3 + 1))) v4 v5 v6)))))))))
(k0 v0 v1))
def impl_LeastOrder_l0 {β : Type} (N : Nat)  : Nat → List Int → Int → Int → Int → Int → Int → List (List Int) → (List Int → Int → Option β) → Option β
  | 0, _, _, _, _, _, _, _, _ => none
  | F + 1, v0, v1, v2, v3, v4, v5, v6, k0 => impl_LeastOrder_l0b N  v0 v1 v2 v3 v4 v5 v6 (fun v0 v1 v2 v3 v4 v5 v6 => impl_LeastOrder_l0 N  F v0 v1 v2 v3 v4 v5 v6 k0) k0
def impl_LeastOrder {β : Type} (N : Nat) (a0 : Int) (a1 : Int) (k : List Int → Int → Bool → Option β) : Option β :=
impl_isSmall N a0 a1 4 fun r5 =>
(cond (!r5)
(k (([] : List Int)) 0 false)
(impl_permutations N a0 fun r6 =>
impl_LeastOrder_l0 N  N (([] : List Int)) (-1) ((r6.length : Int)) 0 a0 a1 r6 (fun e8_0 e8_1 =>
k e8_0 e8_1 true)))
/-! loop.example/g03403/impl.ClaimOfOrder -/
def impl_ClaimOfOrder {β : Type} (N : Nat) (a0 : Int) (a1 : Int) (k : Int → Int → Int → Int → Int → ByteArray → List Int → Bool → Option β) : Option β :=
impl_LeastOrder N a0 a1 fun r10 r11 r12 =>
(cond (!r12)
(k 0 0 0 0 0 ByteArray.empty (([] : List Int)) false)
(k 6 a0 a1 r11 0 ByteArray.empty r10 true))
/-! loop.example/g03403/laws.eqTable -/
def laws_eqTable {β : Type} (N : Nat) (a0 : Int) (a1 : Int) (a2 : Int) (a3 : Int) (k : Bool → Option β) : Option β :=
(cond ((a0 != a2))
(k false)
((cond ((a1 != a3))
(k false)
(k true))))
/-! loop.example/g03403/laws.eqIntS -/
def laws_eqIntS_l0b {β : Type} (N : Nat)  (v0 : List Int) (v1 : List Int) (v2 : Int) (rec_ : List Int → List Int → Int → Option β) (k0 : Bool → Option β) (k1 : Option β) : Option β :=
(cond ((decide (v2 < (v0.length : Int))))
((gd ((decide (0 ≤ v2)))
((gd ((decide (v2 < (v0.length : Int))))
((gd ((decide (0 ≤ v2)))
((gd ((decide (v2 < (v1.length : Int))))
((cond (((rd 0 v0 v2) != (rd 0 v1 v2)))
(k0 false)
(rec_ v0 v1 ((w64 (v2 + 1))))))))))))))
(k1 ))
def laws_eqIntS_l0 {β : Type} (N : Nat)  : Nat → List Int → List Int → Int → (Bool → Option β) → (Option β) → Option β
  | 0, _, _, _, _, _ => none
  | F + 1, v0, v1, v2, k0, k1 => laws_eqIntS_l0b N  v0 v1 v2 (fun v0 v1 v2 => laws_eqIntS_l0 N  F v0 v1 v2 k0 k1) k0 k1
def laws_eqIntS {β : Type} (N : Nat) (a0 : List Int) (a1 : List Int) (k : Bool → Option β) : Option β :=
(cond (((a0.length : Int) != (a1.length : Int)))
(k false)
(laws_eqIntS_l0 N  N a0 a1 0 (fun e3_0 =>
k e3_0) (k true)))
/-! loop.example/g03403/laws.eqClaim -/
def laws_eqClaim {β : Type} (N : Nat) (a0 : Int) (a1 : Int) (a2 : Int) (a3 : Int) (a4 : Int) (a5 : ByteArray) (a6 : List Int) (a7 : Int) (a8 : Int) (a9 : Int) (a10 : Int) (a11 : Int) (a12 : ByteArray) (a13 : List Int) (k : Bool → Option β) : Option β :=
(cond ((a0 != a7))
(k false)
(laws_eqTable N a1 a2 a8 a9 fun r15 =>
(cond (!r15)
(k false)
((cond ((a3 != a10))
(k false)
((cond ((a4 != a11))
(k false)
((cond ((!(a5.toList == a12.toList)))
(k false)
(laws_eqIntS N a6 a13 fun r16 =>
(cond (!r16)
(k false)
(k true))))))))))))
/-! loop.example/g03403/laws.heldIntS -/
def laws_heldIntS_l0b {β : Type} (N : Nat)  (v0 : List Int) (v1 : Int) (v2 : Int) (rec_ : List Int → Int → Int → Option β) (k0 : Int → Option β) (k1 : Int → Option β) : Option β :=
(cond ((decide (v2 < (v0.length : Int))))
((gd ((decide (0 ≤ v2)))
((gd ((decide (v2 < (v0.length : Int))))
((cond (((rd 0 v0 v2) != v1))
(k0 (-1))
(rec_ v0 ((w64 (v1 + 1))) ((w64 (v2 + 1))))))))))
(k1 v1))
def laws_heldIntS_l0 {β : Type} (N : Nat)  : Nat → List Int → Int → Int → (Int → Option β) → (Int → Option β) → Option β
  | 0, _, _, _, _, _ => none
  | F + 1, v0, v1, v2, k0, k1 => laws_heldIntS_l0b N  v0 v1 v2 (fun v0 v1 v2 => laws_heldIntS_l0 N  F v0 v1 v2 k0 k1) k0 k1
def laws_heldIntS {β : Type} (N : Nat) (a0 : List Int) (a1 : Int) (k : Int → Option β) : Option β :=
laws_heldIntS_l0 N  N a0 a1 0 (fun e3_0 =>
k e3_0) (fun e4_0 =>
k e4_0)
/-! loop.example/g03403/laws.heldClaim -/
def laws_heldClaim {β : Type} (N : Nat) (a0 : Int) (a1 : Int) (a2 : Int) (a3 : Int) (a4 : Int) (a5 : ByteArray) (a6 : List Int) (a7 : Int) (k : Int → Option β) : Option β :=
laws_heldIntS N a6 a7 fun r9 =>
(cond ((decide (r9 < 0)))
(k (-1))
(k r9))
/-! loop.example/g03403/laws.markIntS -/
def laws_markIntS_l0b {β : Type} (N : Nat)  (v0 : Int) (v1 : Int) (v2 : List Int) (rec_ : Int → Int → List Int → Option β) (k0 : Int → List Int → Option β) : Option β :=
(cond ((decide (v1 < (v2.length : Int))))
((gd ((decide (0 ≤ v1)))
((gd ((decide (v1 < (v2.length : Int))))
(rec_ ((w64 (v0 + 1))) ((w64 (v1 + 1))) ((wr v2 v1 v0)))))))
(k0 v0 v2))
def laws_markIntS_l0 {β : Type} (N : Nat)  : Nat → Int → Int → List Int → (Int → List Int → Option β) → Option β
  | 0, _, _, _, _ => none
  | F + 1, v0, v1, v2, k0 => laws_markIntS_l0b N  v0 v1 v2 (fun v0 v1 v2 => laws_markIntS_l0 N  F v0 v1 v2 k0) k0
def laws_markIntS {β : Type} (N : Nat) (a0 : List Int) (a1 : Int) (k : Int → List Int → Option β) : Option β :=
laws_markIntS_l0 N  N a1 0 a0 (fun e3_0 e3_1 =>
k e3_0 e3_1)
/-! loop.example/g03403/laws.markClaim -/
def laws_markClaim {β : Type} (N : Nat) (a0 : Int) (a1 : Int) (a2 : Int) (a3 : Int) (a4 : Int) (a5 : ByteArray) (a6 : List Int) (a7 : Int) (k : Int → List Int → Option β) : Option β :=
laws_markIntS N a6 a7 fun r9 m10 =>
k r9 m10
/-! loop.example/g03403/laws.FnExactClaimOfOrder -/
def laws_FnExactClaimOfOrder {β : Type} (N : Nat) (a0 : Int) (a1 : Int) (k : Bool → Option β) : Option β :=
laws_toTable N a0 a1 fun r3 r4 =>
spec_ClaimOfOrder N r3 r4 fun r5 r6 r7 r8 r9 r10 r11 r12 =>
laws_toTable N a0 a1 fun r13 r14 =>
impl_ClaimOfOrder N r13 r14 fun r15 r16 r17 r18 r19 r20 r21 r22 =>
laws_eqClaim N r15 r16 r17 r18 r19 r20 r21 r5 r6 r7 r8 r9 r10 r11 fun r23 =>
(cond (!r23)
(k false)
((cond ((!(r22 == r12)))
(k false)
(laws_markClaim N r15 r16 r17 r18 r19 r20 r21 1 fun r24 m25 =>
laws_heldClaim N r15 r16 r17 r18 r19 r20 m25 1 fun r26 =>
(cond ((decide (r26 < 0)))
(k false)
((cond ((r26 != r24))
(k false)
(laws_toTable N a0 a1 fun r27 r28 =>
impl_ClaimOfOrder N r27 r28 fun r29 r30 r31 r32 r33 r34 r35 r36 =>
laws_eqClaim N r29 r30 r31 r32 r33 r34 r35 r5 r6 r7 r8 r9 r10 r11 fun r37 =>
(cond (!r37)
(k false)
((cond ((!(r36 == r12)))
(k false)
(laws_heldClaim N r15 r16 r17 r18 r19 r20 m25 1 fun r38 =>
(cond ((decide (r38 < 0)))
(k false)
((cond ((r38 != r24))
(k false)
(k true))))))))))))))))
end Go.Proofs.Ytfdggelojmofmaa
