/- The texts of the functions that the claims reach: plain Lean, no program. -/
import Derived.Test.YtdkjnadhgdneaaaDoorRvShape
namespace Go.Proofs.YtdkjnadhgdneaaaDoor
open Go.Rv
set_option linter.unusedVariables false
set_option maxRecDepth 100000
/-! loop.example/g03403/laws.toTable -/
def laws_toTable {β : Type} (N : Nat) (a0 : Int) (a1 : Int) (k : Int → Int → Option β) : Option β :=
k a0 a1
/-! loop.example/g03403/spec.l1In -/
def spec_l1In {β : Type} (N : Nat) (a0 : Int) (a1 : Int) (a2 : Int) (k : Bool → Option β) : Option β :=
(cond ((decide (a0 ≥ a1)))
(k ((decide (a0 ≤ a2))))
(k false))
/-! loop.example/g03403/spec.IsTable -/
def spec_IsTable {β : Type} (N : Nat) (a0 : Int) (a1 : Int) (k : Bool → Option β) : Option β :=
spec_l1In N a0 0 5 fun r3 =>
(cond r3
((gd ((decide (0 ≤ a0)))
((gd ((decide (0 ≤ (shlI .u64 1 a0))))
(spec_l1In N a1 0 ((w64 ((shlI .i64 1 (shlI .u64 1 a0)) - 1))) fun r4 =>
k r4)))))
(k false))
/-! loop.example/g03403/spec.l21Fine -/
def spec_l21Fine {β : Type} (N : Nat) (a0 : Int) (a1 : Int) (a2 : Int) (k : Bool → Option β) : Option β :=
spec_IsTable N a0 a1 fun r4 =>
(cond r4
(spec_l1In N a2 0 2 fun r5 =>
(cond r5
(spec_l1In N ((w64 (a0 - a2))) 0 2 fun r6 =>
k r6)
(k false)))
(k false))
/-! loop.example/g03403/spec.MatrixOf -/
def spec_MatrixOf_l2b {β : Type} (N : Nat)  (v0 : Int) (v1 : Int) (v2 : Int) (v3 : Int) (v4 : Int) (v5 : Int) (v6 : List Int) (rec_ : Int → Int → Int → Int → Int → Int → List Int → Option β) (k0 : Int → Int → Int → Int → Int → List Int → Option β) : Option β :=
(gd ((decide (0 ≤ (w64 (v4 - v0)))))
((cond ((decide (v3 < (shlI .i64 1 (w64 (v4 - v0))))))
((gd ((decide (0 ≤ v0)))
((gd ((decide (0 ≤ (bits .or .i64 v1 (shlI .i64 v3 v0)))))
((gd ((decide (0 ≤ v3)))
(rec_ v0 v1 ((bits .or .i64 v2 (shlI .i64 (bits .and .i64 (shrI .i64 v5 (bits .or .i64 v1 (shlI .i64 v3 v0))) 1) v3))) ((w64 (v3 + 1))) v4 v5 v6)))))))
(k0 v0 v1 v2 v4 v5 v6))))
def spec_MatrixOf_l2 {β : Type} (N : Nat)  : Nat → Int → Int → Int → Int → Int → Int → List Int → (Int → Int → Int → Int → Int → List Int → Option β) → Option β
  | 0, _, _, _, _, _, _, _, _ => none
  | F + 1, v0, v1, v2, v3, v4, v5, v6, k0 => spec_MatrixOf_l2b N  v0 v1 v2 v3 v4 v5 v6 (fun v0 v1 v2 v3 v4 v5 v6 => spec_MatrixOf_l2 N  F v0 v1 v2 v3 v4 v5 v6 k0) k0
def spec_MatrixOf_l0b {β : Type} (N : Nat)  (v0 : Int) (v1 : Int) (v2 : Int) (v3 : Int) (v4 : List Int) (rec_ : Int → Int → Int → Int → List Int → Option β) (k0 : List Int → Option β) : Option β :=
(gd ((decide (0 ≤ v0)))
((cond ((decide (v1 < (shlI .i64 1 v0))))
(spec_MatrixOf_l2 N  N v0 v1 0 0 v2 v3 v4 (fun e7_0 e7_1 e7_2 e7_3 e7_4 e7_5 =>
(gd ((decide ((e7_5.length + ((([] : List Int) ++ [e7_2])).length) * 8 ≤ 140737488355328)))
(rec_ e7_0 ((w64 (e7_1 + 1))) e7_3 e7_4 ((e7_5 ++ (([] : List Int) ++ [e7_2])))))))
(k0 v4))))
def spec_MatrixOf_l0 {β : Type} (N : Nat)  : Nat → Int → Int → Int → Int → List Int → (List Int → Option β) → Option β
  | 0, _, _, _, _, _, _ => none
  | F + 1, v0, v1, v2, v3, v4, k0 => spec_MatrixOf_l0b N  v0 v1 v2 v3 v4 (fun v0 v1 v2 v3 v4 => spec_MatrixOf_l0 N  F v0 v1 v2 v3 v4 k0) k0
def spec_MatrixOf {β : Type} (N : Nat) (a0 : Int) (a1 : Int) (a2 : Int) (k : List Int → Bool → Option β) : Option β :=
spec_IsTable N a0 a1 fun r5 =>
(cond (!r5)
(k (([] : List Int)) false)
(spec_l1In N a2 0 a0 fun r6 =>
(cond (!r6)
(k (([] : List Int)) false)
(spec_MatrixOf_l0 N  N a2 0 a0 a1 (([] : List Int)) (fun e8_0 =>
k e8_0 true)))))
/-! loop.example/g03403/spec.l21One -/
def spec_l21One_l2b {β : Type} (N : Nat)  (v0 : List Int) (v1 : Int) (v2 : Int) (v3 : Int) (v4 : Int) (v5 : Int) (rec_ : List Int → Int → Int → Int → Int → Int → Option β) (k0 : Int → Option β) (k1 : List Int → Int → Int → Int → Int → Option β) : Option β :=
(gd ((decide (0 ≤ v5)))
((cond ((decide ((shrI .i64 v2 v5) > 0)))
((gd ((decide (0 ≤ v5)))
((cond (((bits .and .i64 (shrI .i64 v2 v5) 1) == 0))
(rec_ v0 v1 v2 v3 v4 ((w64 (v5 + 1))))
((gd ((decide (0 ≤ v4)))
((gd ((decide (v4 < (v0.length : Int))))
((gd ((decide (0 ≤ v5)))
((cond ((decide (v3 ≥ 0)))
((cond (((bits .and .i64 (shrI .i64 (rd 0 v0 v4) v5) 1) != v3))
(k0 2)
(rec_ v0 v1 v2 ((bits .and .i64 (shrI .i64 (rd 0 v0 v4) v5) 1)) v4 ((w64 (v5 + 1))))))
(rec_ v0 v1 v2 ((bits .and .i64 (shrI .i64 (rd 0 v0 v4) v5) 1)) v4 ((w64 (v5 + 1))))))))))))))))
(k1 v0 v1 v2 v3 v4))))
def spec_l21One_l2 {β : Type} (N : Nat)  : Nat → List Int → Int → Int → Int → Int → Int → (Int → Option β) → (List Int → Int → Int → Int → Int → Option β) → Option β
  | 0, _, _, _, _, _, _, _, _ => none
  | F + 1, v0, v1, v2, v3, v4, v5, k0, k1 => spec_l21One_l2b N  v0 v1 v2 v3 v4 v5 (fun v0 v1 v2 v3 v4 v5 => spec_l21One_l2 N  F v0 v1 v2 v3 v4 v5 k0 k1) k0 k1
def spec_l21One_l0b {β : Type} (N : Nat)  (v0 : List Int) (v1 : Int) (v2 : Int) (v3 : Int) (v4 : Int) (rec_ : List Int → Int → Int → Int → Int → Option β) (k0 : Int → Option β) (k1 : Int → Option β) : Option β :=
(cond ((decide (v4 < (v0.length : Int))))
((gd ((decide (0 ≤ v4)))
((cond (((bits .and .i64 (shrI .i64 v1 v4) 1) == 0))
(rec_ v0 v1 v2 v3 ((w64 (v4 + 1))))
(spec_l21One_l2 N  N v0 v1 v2 v3 v4 0 (fun e4_0 =>
k0 e4_0) (fun e5_0 e5_1 e5_2 e5_3 e5_4 =>
rec_ e5_0 e5_1 e5_2 e5_3 ((w64 (e5_4 + 1)))))))))
(k1 v3))
def spec_l21One_l0 {β : Type} (N : Nat)  : Nat → List Int → Int → Int → Int → Int → (Int → Option β) → (Int → Option β) → Option β
  | 0, _, _, _, _, _, _, _ => none
  | F + 1, v0, v1, v2, v3, v4, k0, k1 => spec_l21One_l0b N  v0 v1 v2 v3 v4 (fun v0 v1 v2 v3 v4 => spec_l21One_l0 N  F v0 v1 v2 v3 v4 k0 k1) k0 k1
def spec_l21One {β : Type} (N : Nat) (a0 : List Int) (a1 : Int) (a2 : Int) (k : Int → Option β) : Option β :=
spec_l21One_l0 N  N a0 a1 a2 (-1) 0 (fun e6_0 =>
k e6_0) (fun e7_0 =>
k e7_0)
/-! loop.example/g03403/spec.l21Least -/
def spec_l21Least_l0b {β : Type} (N : Nat) (self : List Int → Int → Int → Int → (Int → Option β) → Option β)  (v0 : List Int) (v1 : Int) (v2 : Int) (v3 : Int) (v4 : Int) (rec_ : List Int → Int → Int → Int → Int → Option β) (k0 : Int → Option β) (k1 : List Int → Int → Int → Int → Option β) : Option β :=
(cond ((decide (v4 > 0)))
((cond ((decide (v4 < (w64 (v1 - v4)))))
(rec_ v0 v1 v2 v3 ((bits .and .i64 (w64 (v4 - 1)) v1)))
(self v0 v4 v2 ((w64 (v3 - 2))) fun r6 =>
(cond ((decide ((w64 (1 + r6)) < v3)))
(self v0 ((w64 (v1 - v4))) v2 ((w64 (v3 - 2))) fun r7 =>
(cond (((mnI v3 (mxI (w64 (1 + r6)) (w64 (1 + r7)))) == 1))
(k0 ((mnI v3 (mxI (w64 (1 + r6)) (w64 (1 + r7))))))
(rec_ v0 v1 v2 ((mnI v3 (mxI (w64 (1 + r6)) (w64 (1 + r7))))) ((bits .and .i64 (w64 (v4 - 1)) v1)))))
((cond ((v3 == 1))
(k0 v3)
(rec_ v0 v1 v2 v3 ((bits .and .i64 (w64 (v4 - 1)) v1)))))))))
(k1 v0 v1 v2 v3))
def spec_l21Least_l0 {β : Type} (N : Nat) (self : List Int → Int → Int → Int → (Int → Option β) → Option β)  : Nat → List Int → Int → Int → Int → Int → (Int → Option β) → (List Int → Int → Int → Int → Option β) → Option β
  | 0, _, _, _, _, _, _, _ => none
  | F + 1, v0, v1, v2, v3, v4, k0, k1 => spec_l21Least_l0b N self  v0 v1 v2 v3 v4 (fun v0 v1 v2 v3 v4 => spec_l21Least_l0 N self  F v0 v1 v2 v3 v4 k0 k1) k0 k1
def spec_l21Least_l2b {β : Type} (N : Nat) (self : List Int → Int → Int → Int → (Int → Option β) → Option β)  (v0 : List Int) (v1 : Int) (v2 : Int) (v3 : Int) (v4 : Int) (rec_ : List Int → Int → Int → Int → Int → Option β) (k0 : Int → Option β) : Option β :=
(cond ((decide (v4 > 0)))
((cond ((decide (v4 < (w64 (v2 - v4)))))
(rec_ v0 v1 v2 v3 ((bits .and .i64 (w64 (v4 - 1)) v2)))
((cond ((v3 == 1))
(rec_ v0 v1 v2 v3 ((bits .and .i64 (w64 (v4 - 1)) v2)))
(self v0 v1 v4 ((w64 (v3 - 2))) fun r10 =>
(cond ((decide ((w64 (1 + r10)) < v3)))
(self v0 v1 ((w64 (v2 - v4))) ((w64 (v3 - 2))) fun r11 =>
rec_ v0 v1 v2 ((mnI v3 (mxI (w64 (1 + r10)) (w64 (1 + r11))))) ((bits .and .i64 (w64 (v4 - 1)) v2)))
(rec_ v0 v1 v2 v3 ((bits .and .i64 (w64 (v4 - 1)) v2)))))))))
(k0 v3))
def spec_l21Least_l2 {β : Type} (N : Nat) (self : List Int → Int → Int → Int → (Int → Option β) → Option β)  : Nat → List Int → Int → Int → Int → Int → (Int → Option β) → Option β
  | 0, _, _, _, _, _, _ => none
  | F + 1, v0, v1, v2, v3, v4, k0 => spec_l21Least_l2b N self  v0 v1 v2 v3 v4 (fun v0 v1 v2 v3 v4 => spec_l21Least_l2 N self  F v0 v1 v2 v3 v4 k0) k0
def spec_l21Least_b {β : Type} (N : Nat) (self : List Int → Int → Int → Int → (Int → Option β) → Option β) (a0 : List Int) (a1 : Int) (a2 : Int) (a3 : Int) (k : Int → Option β) : Option β :=
spec_l21One N a0 a1 a2 fun r5 =>
(cond ((decide (r5 < 2)))
(k 0)
((cond ((a3 == 0))
(k 1)
(spec_l21Least_l0 N self  N a0 a1 a2 ((w64 (a3 + 1))) ((bits .and .i64 (w64 (a1 - 1)) a1)) (fun e8_0 =>
k e8_0) (fun e9_0 e9_1 e9_2 e9_3 =>
spec_l21Least_l2 N self  N e9_0 e9_1 e9_2 e9_3 ((bits .and .i64 (w64 (e9_2 - 1)) e9_2)) (fun e12_0 =>
k e12_0))))))
def spec_l21Least_f {β : Type} (N : Nat) : Nat → List Int → Int → Int → Int → (Int → Option β) → Option β
  | 0, _, _, _, _, _ => none
  | F + 1, a0, a1, a2, a3, k => spec_l21Least_b N (spec_l21Least_f N F) a0 a1 a2 a3 k
def spec_l21Least {β : Type} (N : Nat) (a0 : List Int) (a1 : Int) (a2 : Int) (a3 : Int) (k : Int → Option β) : Option β := spec_l21Least_f N N a0 a1 a2 a3 k
/-! loop.example/g03403/spec.LeastBits -/
def spec_LeastBits {β : Type} (N : Nat) (a0 : Int) (a1 : Int) (a2 : Int) (k : Int → Option β) : Option β :=
spec_l21Fine N a0 a1 a2 fun r4 =>
(cond (!r4)
(k (-1))
(spec_MatrixOf N a0 a1 a2 fun r5 r6 =>
(gd ((decide (0 ≤ (r5.length : Int))))
((gd ((decide (0 ≤ (w64 (a0 - a2)))))
((gd ((decide (0 ≤ (shlI .u64 1 (w64 (a0 - a2))))))
(spec_l21Least N r5 ((w64 ((shlI .i64 1 (r5.length : Int)) - 1))) ((w64 ((shlI .i64 1 (shlI .u64 1 (w64 (a0 - a2)))) - 1))) 4 fun r7 =>
k r7))))))))
/-! loop.example/g03403/spec.l21Hex -/
def spec_l21Hex {β : Type} (N : Nat) (a0 : Int) (k : ByteArray → Option β) : Option β :=
(gd ((decide (0 ≤ (w64 (a0 + 1)))))
((gd ((decide ((w64 (a0 + 1)) ≤ (((strOf [48, 49, 50, 51, 52, 53, 54, 55, 56, 57, 97, 98, 99, 100, 101, 102])).size : Int))))
((gd ((decide (0 ≤ a0)))
((gd ((decide (a0 ≤ (w64 (a0 + 1)))))
(k ((((strOf [48, 49, 50, 51, 52, 53, 54, 55, 56, 57, 97, 98, 99, 100, 101, 102])).extract (Int.toNat a0) (Int.toNat (w64 (a0 + 1)))))))))))))
/-! loop.example/g03403/spec.l21Build -/
def spec_l21Build_l0b {β : Type} (N : Nat) (self : List Int → Int → Int → Int → (ByteArray → Option β) → Option β)  (v0 : List Int) (v1 : Int) (v2 : Int) (v3 : Int) (v4 : Int) (rec_ : List Int → Int → Int → Int → Int → Option β) (k0 : ByteArray → Option β) (k1 : List Int → Int → Int → Int → Option β) : Option β :=
(cond ((decide (v4 < v1)))
((cond (((bits .and .i64 v4 v1) == v4))
(spec_l21Least N v0 v4 v2 ((w64 (v3 - 1))) fun r6 =>
(cond ((decide (r6 < v3)))
(spec_l21Least N v0 ((w64 (v1 - v4))) v2 ((w64 (v3 - 1))) fun r7 =>
(cond ((decide (r7 < v3)))
(spec_l21Hex N v4 fun r8 =>
(gd ((decide (((strOf [65])).size + r8.size ≤ 9223372036854775807)))
(spec_l21Least N v0 ((w64 (v1 - v4))) v2 ((w64 (v3 - 1))) fun r9 =>
self v0 ((w64 (v1 - v4))) v2 r9 fun r10 =>
(gd ((decide ((((strOf [65]) ++ r8)).size + r10.size ≤ 9223372036854775807)))
(spec_l21Least N v0 v4 v2 ((w64 (v3 - 1))) fun r11 =>
self v0 v4 v2 r11 fun r12 =>
(gd ((decide (((((strOf [65]) ++ r8) ++ r10)).size + r12.size ≤ 9223372036854775807)))
(k0 (((((strOf [65]) ++ r8) ++ r10) ++ r12)))))))))
(rec_ v0 v1 v2 v3 ((w64 (v4 + 1))))))
(rec_ v0 v1 v2 v3 ((w64 (v4 + 1))))))
(rec_ v0 v1 v2 v3 ((w64 (v4 + 1))))))
(k1 v0 v1 v2 v3))
def spec_l21Build_l0 {β : Type} (N : Nat) (self : List Int → Int → Int → Int → (ByteArray → Option β) → Option β)  : Nat → List Int → Int → Int → Int → Int → (ByteArray → Option β) → (List Int → Int → Int → Int → Option β) → Option β
  | 0, _, _, _, _, _, _, _ => none
  | F + 1, v0, v1, v2, v3, v4, k0, k1 => spec_l21Build_l0b N self  v0 v1 v2 v3 v4 (fun v0 v1 v2 v3 v4 => spec_l21Build_l0 N self  F v0 v1 v2 v3 v4 k0 k1) k0 k1
def spec_l21Build_l2b {β : Type} (N : Nat) (self : List Int → Int → Int → Int → (ByteArray → Option β) → Option β)  (v0 : List Int) (v1 : Int) (v2 : Int) (v3 : Int) (v4 : Int) (rec_ : List Int → Int → Int → Int → Int → Option β) (k0 : ByteArray → Option β) (k1 : Option β) : Option β :=
(cond ((decide (v4 < v2)))
((cond (((bits .and .i64 v4 v2) == v4))
(spec_l21Least N v0 v1 v4 ((w64 (v3 - 1))) fun r15 =>
(cond ((decide (r15 < v3)))
(spec_l21Least N v0 v1 ((w64 (v2 - v4))) ((w64 (v3 - 1))) fun r16 =>
(cond ((decide (r16 < v3)))
(spec_l21Hex N v4 fun r17 =>
(gd ((decide (((strOf [66])).size + r17.size ≤ 9223372036854775807)))
(spec_l21Least N v0 v1 ((w64 (v2 - v4))) ((w64 (v3 - 1))) fun r18 =>
self v0 v1 ((w64 (v2 - v4))) r18 fun r19 =>
(gd ((decide ((((strOf [66]) ++ r17)).size + r19.size ≤ 9223372036854775807)))
(spec_l21Least N v0 v1 v4 ((w64 (v3 - 1))) fun r20 =>
self v0 v1 v4 r20 fun r21 =>
(gd ((decide (((((strOf [66]) ++ r17) ++ r19)).size + r21.size ≤ 9223372036854775807)))
(k0 (((((strOf [66]) ++ r17) ++ r19) ++ r21)))))))))
(rec_ v0 v1 v2 v3 ((w64 (v4 + 1))))))
(rec_ v0 v1 v2 v3 ((w64 (v4 + 1))))))
(rec_ v0 v1 v2 v3 ((w64 (v4 + 1))))))
(k1 ))
def spec_l21Build_l2 {β : Type} (N : Nat) (self : List Int → Int → Int → Int → (ByteArray → Option β) → Option β)  : Nat → List Int → Int → Int → Int → Int → (ByteArray → Option β) → (Option β) → Option β
  | 0, _, _, _, _, _, _, _ => none
  | F + 1, v0, v1, v2, v3, v4, k0, k1 => spec_l21Build_l2b N self  v0 v1 v2 v3 v4 (fun v0 v1 v2 v3 v4 => spec_l21Build_l2 N self  F v0 v1 v2 v3 v4 k0 k1) k0 k1
def spec_l21Build_b {β : Type} (N : Nat) (self : List Int → Int → Int → Int → (ByteArray → Option β) → Option β) (a0 : List Int) (a1 : Int) (a2 : Int) (a3 : Int) (k : ByteArray → Option β) : Option β :=
spec_l21One N a0 a1 a2 fun r5 =>
(cond ((decide (r5 < 2)))
((gd ((decide (0 ≤ (w64 (r5 + 1)))))
((gd ((decide ((w64 (r5 + 1)) ≤ (((strOf [48, 49])).size : Int))))
((gd ((decide (0 ≤ r5)))
((gd ((decide (r5 ≤ (w64 (r5 + 1)))))
(k ((((strOf [48, 49])).extract (Int.toNat r5) (Int.toNat (w64 (r5 + 1))))))))))))))
(spec_l21Build_l0 N self  N a0 a1 a2 a3 1 (fun e13_0 =>
k e13_0) (fun e14_0 e14_1 e14_2 e14_3 =>
spec_l21Build_l2 N self  N e14_0 e14_1 e14_2 e14_3 1 (fun e22_0 =>
k e22_0) (k ByteArray.empty))))
def spec_l21Build_f {β : Type} (N : Nat) : Nat → List Int → Int → Int → Int → (ByteArray → Option β) → Option β
  | 0, _, _, _, _, _ => none
  | F + 1, a0, a1, a2, a3, k => spec_l21Build_b N (spec_l21Build_f N F) a0 a1 a2 a3 k
def spec_l21Build {β : Type} (N : Nat) (a0 : List Int) (a1 : Int) (a2 : Int) (a3 : Int) (k : ByteArray → Option β) : Option β := spec_l21Build_f N N a0 a1 a2 a3 k
/-! loop.example/g03403/spec.ProtocolOf -/
def spec_ProtocolOf {β : Type} (N : Nat) (a0 : Int) (a1 : Int) (a2 : Int) (k : ByteArray → Bool → Option β) : Option β :=
spec_l21Fine N a0 a1 a2 fun r5 =>
(cond (!r5)
(k ByteArray.empty false)
(spec_MatrixOf N a0 a1 a2 fun r6 r7 =>
(gd ((decide (0 ≤ (r6.length : Int))))
((gd ((decide (0 ≤ (w64 (a0 - a2)))))
((gd ((decide (0 ≤ (shlI .u64 1 (w64 (a0 - a2))))))
(spec_LeastBits N a0 a1 a2 fun r8 =>
spec_l21Build N r6 ((w64 ((shlI .i64 1 (r6.length : Int)) - 1))) ((w64 ((shlI .i64 1 (shlI .u64 1 (w64 (a0 - a2)))) - 1))) r8 fun r9 =>
k r9 true))))))))
/-! loop.example/g03403/impl.isBits -/
def impl_isBits {β : Type} (N : Nat) (a0 : Int) (k : Bool → Option β) : Option β :=
(cond ((decide (a0 ≥ 0)))
(k ((decide (a0 ≤ 5))))
(k false))
/-! (loop.example/g03403/impl.Table).size -/
def impl_Table_size {β : Type} (N : Nat) (a0 : Int) (a1 : Int) (k : Int → Option β) : Option β :=
(gd ((decide (0 ≤ a0)))
(k ((shlI .i64 1 a0))))
/-! loop.example/g03403/impl.IsTable -/
def impl_IsTable {β : Type} (N : Nat) (a0 : Int) (a1 : Int) (k : Bool → Option β) : Option β :=
impl_isBits N a0 fun r3 =>
(cond r3
((cond ((decide (a1 ≥ 0)))
(impl_Table_size N a0 a1 fun r4 =>
(gd ((decide (0 ≤ r4)))
(k (((shrI .i64 a1 r4) == 0)))))
(k false)))
(k false))
/-! loop.example/g03403/impl.isSplit -/
def impl_isSplit {β : Type} (N : Nat) (a0 : Int) (a1 : Int) (a2 : Int) (k : Bool → Option β) : Option β :=
impl_IsTable N a0 a1 fun r4 =>
(cond r4
((cond ((decide (a2 ≥ 0)))
(k ((decide (a2 ≤ a0))))
(k false)))
(k false))
/-! (loop.example/g03403/impl.Table).talking -/
def impl_Table_talking_g0 {β : Type} (N : Nat) (a0 : Int) (a1 : Int) (a2 : Int) (k0 : Int → Int → Option β) (k1 : Int → Int → Int → Int → Int → Mp → Option β) : Option β :=
impl_isSplit N a0 a1 a2 fun r5 =>
(cond (!r5)
(k0 0 0)
((cond ((decide (a2 > 2)))
(k0 0 0)
((cond ((decide ((w64 (a0 - a2)) > 2)))
(k0 0 0)
((gd ((decide (0 ≤ a2)))
((gd ((decide (0 ≤ (shlI .u64 1 a2))))
((gd ((decide (0 ≤ (w64 (a0 - a2)))))
((gd ((decide (0 ≤ (shlI .u64 1 (w64 (a0 - a2))))))
(k1 ((w64 ((shlI .i64 1 (shlI .u64 1 a2)) - 1))) ((w64 ((shlI .i64 1 (shlI .u64 1 (w64 (a0 - a2)))) - 1))) a0 a1 a2 (([] : Mp))))))))))))))))
/-! internal/strconv.small -/
def internal_strconv_small {β : Type} (N : Nat) (a0 : Int) (k : ByteArray → Option β) : Option β :=
(cond ((decide (a0 < 10)))
((gd ((decide (0 ≤ (w64 (a0 + 1)))))
((gd ((decide ((w64 (a0 + 1)) ≤ (((strOf [48, 49, 50, 51, 52, 53, 54, 55, 56, 57, 97, 98, 99, 100, 101, 102, 103, 104, 105, 106, 107, 108, 109, 110, 111, 112, 113, 114, 115, 116, 117, 118, 119, 120, 121, 122])).size : Int))))
((gd ((decide (0 ≤ a0)))
((gd ((decide (a0 ≤ (w64 (a0 + 1)))))
(k ((((strOf [48, 49, 50, 51, 52, 53, 54, 55, 56, 57, 97, 98, 99, 100, 101, 102, 103, 104, 105, 106, 107, 108, 109, 110, 111, 112, 113, 114, 115, 116, 117, 118, 119, 120, 121, 122])).extract (Int.toNat a0) (Int.toNat (w64 (a0 + 1))))))))))))))
((gd ((decide (0 ≤ (w64 ((w64 (a0 * 2)) + 2)))))
((gd ((decide ((w64 ((w64 (a0 * 2)) + 2)) ≤ (((strOf [48, 48, 48, 49, 48, 50, 48, 51, 48, 52, 48, 53, 48, 54, 48, 55, 48, 56, 48, 57, 49, 48, 49, 49, 49, 50, 49, 51, 49, 52, 49, 53, 49, 54, 49, 55, 49, 56, 49, 57, 50, 48, 50, 49, 50, 50, 50, 51, 50, 52, 50, 53, 50, 54, 50, 55, 50, 56, 50, 57, 51, 48, 51, 49, 51, 50, 51, 51, 51, 52, 51, 53, 51, 54, 51, 55, 51, 56, 51, 57, 52, 48, 52, 49, 52, 50, 52, 51, 52, 52, 52, 53, 52, 54, 52, 55, 52, 56, 52, 57, 53, 48, 53, 49, 53, 50, 53, 51, 53, 52, 53, 53, 53, 54, 53, 55, 53, 56, 53, 57, 54, 48, 54, 49, 54, 50, 54, 51, 54, 52, 54, 53, 54, 54, 54, 55, 54, 56, 54, 57, 55, 48, 55, 49, 55, 50, 55, 51, 55, 52, 55, 53, 55, 54, 55, 55, 55, 56, 55, 57, 56, 48, 56, 49, 56, 50, 56, 51, 56, 52, 56, 53, 56, 54, 56, 55, 56, 56, 56, 57, 57, 48, 57, 49, 57, 50, 57, 51, 57, 52, 57, 53, 57, 54, 57, 55, 57, 56, 57, 57])).size : Int))))
((gd ((decide (0 ≤ (w64 (a0 * 2)))))
((gd ((decide ((w64 (a0 * 2)) ≤ (w64 ((w64 (a0 * 2)) + 2)))))
(k ((((strOf [48, 48, 48, 49, 48, 50, 48, 51, 48, 52, 48, 53, 48, 54, 48, 55, 48, 56, 48, 57, 49, 48, 49, 49, 49, 50, 49, 51, 49, 52, 49, 53, 49, 54, 49, 55, 49, 56, 49, 57, 50, 48, 50, 49, 50, 50, 50, 51, 50, 52, 50, 53, 50, 54, 50, 55, 50, 56, 50, 57, 51, 48, 51, 49, 51, 50, 51, 51, 51, 52, 51, 53, 51, 54, 51, 55, 51, 56, 51, 57, 52, 48, 52, 49, 52, 50, 52, 51, 52, 52, 52, 53, 52, 54, 52, 55, 52, 56, 52, 57, 53, 48, 53, 49, 53, 50, 53, 51, 53, 52, 53, 53, 53, 54, 53, 55, 53, 56, 53, 57, 54, 48, 54, 49, 54, 50, 54, 51, 54, 52, 54, 53, 54, 54, 54, 55, 54, 56, 54, 57, 55, 48, 55, 49, 55, 50, 55, 51, 55, 52, 55, 53, 55, 54, 55, 55, 55, 56, 55, 57, 56, 48, 56, 49, 56, 50, 56, 51, 56, 52, 56, 53, 56, 54, 56, 55, 56, 56, 56, 57, 57, 48, 57, 49, 57, 50, 57, 51, 57, 52, 57, 53, 57, 54, 57, 55, 57, 56, 57, 57])).extract (Int.toNat (w64 (a0 * 2))) (Int.toNat (w64 ((w64 (a0 * 2)) + 2)))))))))))))))
/-! internal/strconv.formatBits -/
def internal_strconv_formatBits {β : Type} (N : Nat) (a0 : List Int) (a1 : Int) (a2 : Int) (a3 : Bool) (a4 : Bool) (k : List Int → ByteArray → Option β) : Option β :=
(cond ((decide (a2 < 2)))
(none)
((cond ((a2 == 10))
(none)
((cond ((decide (a2 > 36)))
(none)
(none))))))
/-! internal/strconv.FormatInt -/
def internal_strconv_FormatInt {β : Type} (N : Nat) (a0 : Int) (a1 : Int) (k : ByteArray → Option β) : Option β :=
(cond ((a1 == 10))
((cond ((decide (0 ≤ a0)))
((cond ((decide (a0 < 100)))
(internal_strconv_small N a0 fun r3 =>
k r3)
(none)))
(none)))
(internal_strconv_formatBits N (([] : List Int)) ((wu64 (a0))) a1 ((decide (a0 < 0))) false fun r4 r5 =>
k r5))
/-! internal/strconv.Itoa -/
def internal_strconv_Itoa {β : Type} (N : Nat) (a0 : Int) (k : ByteArray → Option β) : Option β :=
internal_strconv_FormatInt N a0 10 fun r2 =>
k r2
/-! strconv.Itoa -/
def strconv_Itoa {β : Type} (N : Nat) (a0 : Int) (k : ByteArray → Option β) : Option β :=
internal_strconv_Itoa N a0 fun r2 =>
k r2
/-! loop.example/g03403/impl.FormatInt -/
def impl_FormatInt {β : Type} (N : Nat) (a0 : Int) (k : ByteArray → Option β) : Option β :=
strconv_Itoa N a0 fun r2 =>
k r2
/-! (loop.example/g03403/impl.sides).parted -/
def impl_sides_parted_s5 {β : Type} (s0 : Bool) (s1 : Int) (s2 : Int) (s3 : Int) (s4 : Int) (K : Option β) : Option β :=
(gd (s0 == s0) (gd (s1 == s1) (gd (s2 == s2) (gd (s3 == s3) (gd (s4 == s4) K)))))
def impl_sides_parted_s6 {β : Type} (s0 : Int) (s1 : Int) (s2 : Int) (s3 : Int) (s4 : Int) (s5 : Int) (s6 : Int) (s7 : Int) (s8 : Int) (s9 : Int) (s10 : Int) (K : Option β) : Option β :=
(gd (s0 == s0) (gd (s1 == s1) (gd (s2 == s2) (gd (s3 == s3) (gd (s4 == s4) (gd (s5 == s5) (gd (s6 == s6) (gd (s7 == s7) (gd (s8 == s8) (gd (s9 == s9) (gd (s10 == s10) K)))))))))))
def impl_sides_parted_s10 {β : Type} (s0 : Bool) (s1 : Int) (s2 : Int) (s3 : Int) (s4 : Int) (K : Option β) : Option β :=
(gd (s0 == s0) (gd (s1 == s1) (gd (s2 == s2) (gd (s3 == s3) (gd (s4 == s4) K)))))
def impl_sides_parted {β : Type} (N : Nat) (a0 : Int) (a1 : Int) (a2 : Int) (a3 : Int) (k : Int → Int → Int → Int → Bool → Option β) : Option β :=
(cond ((a2 == 66))
((cond ((a3 == 0))
((impl_sides_parted_s5 false a0 a1 a0 a1
(k a0 a1 a0 a1 false)))
((cond ((a3 == a1))
((impl_sides_parted_s5 false a0 a1 a0 a1
(k a0 a1 a0 a1 false)))
((cond (((bits .andNot .i64 a3 a1) != 0))
((impl_sides_parted_s5 false a0 a1 a0 a1
(k a0 a1 a0 a1 false)))
((impl_sides_parted_s6 a2 a3 a1 0 0 0 0 a0 a1 a0 a1
((impl_sides_parted_s6 a2 a3 a1 0 0 0 0 a0 a1 a0 a1
((impl_sides_parted_s6 a2 a3 a1 0 0 0 0 a0 a1 a0 a1
((impl_sides_parted_s6 a2 a3 a1 0 0 0 0 a0 a1 a0 a1
((impl_sides_parted_s6 a2 a3 a1 0 0 0 0 a0 a1 a0 a1
((impl_sides_parted_s6 a2 a3 a1 0 0 0 0 a0 a1 a0 a1
((impl_sides_parted_s6 a2 a3 a1 0 0 0 0 a0 a1 a0 a1
((cond ((a2 == 65))
((impl_sides_parted_s10 true ((bits .andNot .i64 a1 a3)) a1 a3 a1
(k ((bits .andNot .i64 a1 a3)) a1 a3 a1 true)))
((impl_sides_parted_s10 true a0 ((bits .andNot .i64 a1 a3)) a0 a3
(k a0 ((bits .andNot .i64 a1 a3)) a0 a3 true)))))))))))))))))))))))))
((cond ((a3 == 0))
((impl_sides_parted_s5 false a0 a1 a0 a1
(k a0 a1 a0 a1 false)))
((cond ((a3 == a0))
((impl_sides_parted_s5 false a0 a1 a0 a1
(k a0 a1 a0 a1 false)))
((cond (((bits .andNot .i64 a3 a0) != 0))
((impl_sides_parted_s5 false a0 a1 a0 a1
(k a0 a1 a0 a1 false)))
((impl_sides_parted_s6 a2 a3 a0 0 0 0 0 a0 a1 a0 a1
((impl_sides_parted_s6 a2 a3 a0 0 0 0 0 a0 a1 a0 a1
((impl_sides_parted_s6 a2 a3 a0 0 0 0 0 a0 a1 a0 a1
((impl_sides_parted_s6 a2 a3 a0 0 0 0 0 a0 a1 a0 a1
((impl_sides_parted_s6 a2 a3 a0 0 0 0 0 a0 a1 a0 a1
((impl_sides_parted_s6 a2 a3 a0 0 0 0 0 a0 a1 a0 a1
((impl_sides_parted_s6 a2 a3 a0 0 0 0 0 a0 a1 a0 a1
((cond ((a2 == 65))
((impl_sides_parted_s10 true ((bits .andNot .i64 a0 a3)) a1 a3 a1
(k ((bits .andNot .i64 a0 a3)) a1 a3 a1 true)))
((impl_sides_parted_s10 true a0 ((bits .andNot .i64 a0 a3)) a0 a3
(k a0 ((bits .andNot .i64 a0 a3)) a0 a3 true))))))))))))))))))))))))))
/-! (loop.example/g03403/impl.Table).at -/
def impl_Table_at {β : Type} (N : Nat) (a0 : Int) (a1 : Int) (a2 : Int) (k : Int → Option β) : Option β :=
(gd ((decide (0 ≤ a2)))
(k ((bits .and .i64 (shrI .i64 a1 a2) 1))))
/-! (*loop.example/g03403/impl.talk).value -/
def impl_talk_value_l0b {β : Type} (N : Nat)  (v0 : Int) (v1 : Int) (v2 : Int) (v3 : Int) (v4 : Int) (v5 : Int) (v6 : Mp) (v7 : Int) (v8 : Int) (rec_ : Int → Int → Int → Int → Int → Int → Mp → Int → Int → Option β) (k0 : Int → Int → Int → Int → Mp → Option β) (k1 : Int → Int → Int → Int → Mp → Option β) : Option β :=
(cond ((decide (v2 < v1)))
((gd ((decide (0 ≤ v5)))
((gd ((decide (0 ≤ (bits .and .i64 v2 (w64 ((shlI .i64 1 v5) - 1))))))
((cond (((bits .and .i64 (shrI .i64 v7 (bits .and .i64 v2 (w64 ((shlI .i64 1 v5) - 1)))) 1) == 0))
(rec_ v0 v1 ((w64 (v2 + 1))) v3 v4 v5 v6 v7 v8)
((gd ((decide (0 ≤ v5)))
((gd ((decide (0 ≤ (shrI .i64 v2 v5))))
((cond (((bits .and .i64 (shrI .i64 v8 (shrI .i64 v2 v5)) 1) == 0))
(rec_ v0 v1 ((w64 (v2 + 1))) v3 v4 v5 v6 v7 v8)
((cond ((decide (v0 ≥ 0)))
(impl_Table_at N v3 v4 v2 fun r9 =>
(cond ((r9 != v0))
(k0 (-1) v3 v4 v5 v6)
(impl_Table_at N v3 v4 v2 fun r10 =>
rec_ r10 v1 ((w64 (v2 + 1))) v3 v4 v5 v6 v7 v8)))
(impl_Table_at N v3 v4 v2 fun r11 =>
rec_ r11 v1 ((w64 (v2 + 1))) v3 v4 v5 v6 v7 v8)))))))))))))))
(k1 v0 v3 v4 v5 v6))
def impl_talk_value_l0 {β : Type} (N : Nat)  : Nat → Int → Int → Int → Int → Int → Int → Mp → Int → Int → (Int → Int → Int → Int → Mp → Option β) → (Int → Int → Int → Int → Mp → Option β) → Option β
  | 0, _, _, _, _, _, _, _, _, _, _, _ => none
  | F + 1, v0, v1, v2, v3, v4, v5, v6, v7, v8, k0, k1 => impl_talk_value_l0b N  v0 v1 v2 v3 v4 v5 v6 v7 v8 (fun v0 v1 v2 v3 v4 v5 v6 v7 v8 => impl_talk_value_l0 N  F v0 v1 v2 v3 v4 v5 v6 v7 v8 k0 k1) k0 k1
def impl_talk_value_g0 {β : Type} (N : Nat) (a0 : Int) (a1 : Int) (a2 : Int) (a3 : Int) (a4 : Int) (a5 : Mp) (k0 : Int → Int → Int → Int → Mp → Option β) : Option β :=
impl_Table_size N a2 a3 fun r8 =>
impl_talk_value_l0 N  N (-1) r8 0 a2 a3 a4 a5 a0 a1 (fun e12_0 e12_1 e12_2 e12_3 e12_4 =>
k0 e12_0 e12_1 e12_2 e12_3 e12_4) (fun e13_0 e13_1 e13_2 e13_3 e13_4 =>
k0 e13_0 e13_1 e13_2 e13_3 e13_4)
/-! (*loop.example/g03403/impl.talk).need -/
def impl_talk_need_l2b {β : Type} (N : Nat) (self : Int → Int → Int → Int → Int → Mp → (Int → Int → Int → Int → Mp → Option β) → Option β)  (v0 : Int) (v1 : Int) (v2 : Int) (v3 : Int) (v4 : Int) (v5 : Int) (v6 : Int) (v7 : Int) (v8 : Mp) (v9 : Int) (v10 : Int) (v11 : List Int) (rec_ : Int → Int → Int → Int → Int → Int → Int → Int → Mp → Int → Int → List Int → Option β) (k0 : Int → Int → Int → Int → Int → Int → Mp → Int → Int → List Int → Option β) : Option β :=
(cond ((decide (v4 < 16)))
(impl_sides_parted N v9 v10 v1 v4 fun r22 r23 r24 r25 r26 =>
(cond r26
(self r22 r23 v5 v6 v7 v8 (fun r27_0 r27_1 r27_2 r27_3 r27_4 =>
self r24 r25 r27_1 r27_2 r27_3 r27_4 (fun r28_0 r28_1 r28_2 r28_3 r28_4 =>
rec_ ((mnI v0 (w64 (1 + (mxI r27_0 r28_0))))) v1 v2 v3 ((w64 (v4 + 1))) r28_1 r28_2 r28_3 r28_4 v9 v10 v11)))
(rec_ v0 v1 v2 v3 ((w64 (v4 + 1))) v5 v6 v7 v8 v9 v10 v11)))
(k0 v0 v2 v3 v5 v6 v7 v8 v9 v10 v11))
def impl_talk_need_l2 {β : Type} (N : Nat) (self : Int → Int → Int → Int → Int → Mp → (Int → Int → Int → Int → Mp → Option β) → Option β)  : Nat → Int → Int → Int → Int → Int → Int → Int → Int → Mp → Int → Int → List Int → (Int → Int → Int → Int → Int → Int → Mp → Int → Int → List Int → Option β) → Option β
  | 0, _, _, _, _, _, _, _, _, _, _, _, _, _ => none
  | F + 1, v0, v1, v2, v3, v4, v5, v6, v7, v8, v9, v10, v11, k0 => impl_talk_need_l2b N self  v0 v1 v2 v3 v4 v5 v6 v7 v8 v9 v10 v11 (fun v0 v1 v2 v3 v4 v5 v6 v7 v8 v9 v10 v11 => impl_talk_need_l2 N self  F v0 v1 v2 v3 v4 v5 v6 v7 v8 v9 v10 v11 k0) k0
def impl_talk_need_l0b {β : Type} (N : Nat) (self : Int → Int → Int → Int → Int → Mp → (Int → Int → Int → Int → Mp → Option β) → Option β)  (v0 : Int) (v1 : Int) (v2 : Int) (v3 : Int) (v4 : Int) (v5 : Int) (v6 : Mp) (v7 : Int) (v8 : Int) (v9 : List Int) (rec_ : Int → Int → Int → Int → Int → Int → Mp → Int → Int → List Int → Option β) (k0 : Int → Int → Int → Int → Mp → Int → Int → Option β) : Option β :=
(cond ((decide (v2 < v1)))
((gd ((decide (0 ≤ v2)))
((gd ((decide (v2 < (v9.length : Int))))
(impl_talk_need_l2 N self  N v0 ((rd 0 v9 v2)) v1 v2 0 v3 v4 v5 v6 v7 v8 v9 (fun e29_0 e29_1 e29_2 e29_3 e29_4 e29_5 e29_6 e29_7 e29_8 e29_9 =>
rec_ e29_0 e29_1 ((w64 (e29_2 + 1))) e29_3 e29_4 e29_5 e29_6 e29_7 e29_8 e29_9))))))
(k0 v0 v3 v4 v5 v6 v7 v8))
def impl_talk_need_l0 {β : Type} (N : Nat) (self : Int → Int → Int → Int → Int → Mp → (Int → Int → Int → Int → Mp → Option β) → Option β)  : Nat → Int → Int → Int → Int → Int → Int → Mp → Int → Int → List Int → (Int → Int → Int → Int → Mp → Int → Int → Option β) → Option β
  | 0, _, _, _, _, _, _, _, _, _, _, _ => none
  | F + 1, v0, v1, v2, v3, v4, v5, v6, v7, v8, v9, k0 => impl_talk_need_l0b N self  v0 v1 v2 v3 v4 v5 v6 v7 v8 v9 (fun v0 v1 v2 v3 v4 v5 v6 v7 v8 v9 => impl_talk_need_l0 N self  F v0 v1 v2 v3 v4 v5 v6 v7 v8 v9 k0) k0
def impl_talk_need_g0_b {β : Type} (N : Nat) (self : Int → Int → Int → Int → Int → Mp → (Int → Int → Int → Int → Mp → Option β) → Option β) (a0 : Int) (a1 : Int) (a2 : Int) (a3 : Int) (a4 : Int) (a5 : Mp) (k0 : Int → Int → Int → Int → Mp → Option β) : Option β :=
(cond ((hasM ⟨true, false⟩ a5 a0 a1))
(k0 ((getM ⟨true, false⟩ a5 a0 a1)) a2 a3 a4 a5)
(impl_talk_value_g0 N a0 a1 a2 a3 a4 a5 (fun r21_0 r21_1 r21_2 r21_3 r21_4 =>
(cond ((decide (r21_0 < 0)))
(impl_talk_need_l0 N self  N 4 (((((([] : List Int) ++ [65]) ++ [66])).length : Int)) 0 r21_1 r21_2 r21_3 r21_4 a0 a1 (((([] : List Int) ++ [65]) ++ [66])) (fun e30_0 e30_1 e30_2 e30_3 e30_4 e30_5 e30_6 =>
k0 e30_0 e30_1 e30_2 e30_3 ((putM ⟨true, false⟩ e30_4 e30_5 e30_6 e30_0))))
(k0 0 r21_1 r21_2 r21_3 ((putM ⟨true, false⟩ r21_4 a0 a1 0)))))))
def impl_talk_need_g0_f {β : Type} (N : Nat) : Nat → Int → Int → Int → Int → Int → Mp → (Int → Int → Int → Int → Mp → Option β) → Option β
  | 0, _, _, _, _, _, _, _ => none
  | F + 1, a0, a1, a2, a3, a4, a5, k0 => impl_talk_need_g0_b N (impl_talk_need_g0_f N F) a0 a1 a2 a3 a4 a5 k0
def impl_talk_need_g0 {β : Type} (N : Nat) (a0 : Int) (a1 : Int) (a2 : Int) (a3 : Int) (a4 : Int) (a5 : Mp) (k0 : Int → Int → Int → Int → Mp → Option β) : Option β := impl_talk_need_g0_f N N a0 a1 a2 a3 a4 a5 k0
/-! (*loop.example/g03403/impl.talk).text -/
def impl_talk_text_t12 {β : Type} (s0 : ByteArray) (s1 : Int) (s2 : Int) (s3 : Int) (s4 : Mp) (u0 : ByteArray) (u1 : Int) (u2 : Int) (u3 : Int) (u4 : Mp) (K : Option β) : Option β :=
(gd (decide (s0 = u0)) (gd (s1 == u1) (gd (s2 == u2) (gd (s3 == u3) (gd (s4 == u4) K)))))
def impl_talk_text_l2b {β : Type} (N : Nat) (self : Int → Int → Int → Int → Int → Mp → (ByteArray → Int → Int → Int → Mp → Option β) → Option β)  (v0 : Int) (v1 : Int) (v2 : Int) (v3 : Int) (v4 : Int) (v5 : Int) (v6 : Int) (v7 : Mp) (v8 : Int) (v9 : Int) (v10 : List Int) (rec_ : Int → Int → Int → Int → Int → Int → Int → Mp → Int → Int → List Int → Option β) (k0 : ByteArray → Int → Int → Int → Mp → Option β) (k1 : Int → Int → Int → Int → Int → Mp → Int → Int → List Int → Option β) : Option β :=
(cond ((decide (v3 < 16)))
(impl_sides_parted N v8 v9 v0 v3 fun r10 r11 r12 r13 r14 =>
(cond r14
(impl_talk_need_g0 N r10 r11 v4 v5 v6 v7 (fun r15_0 r15_1 r15_2 r15_3 r15_4 =>
impl_talk_need_g0 N v8 v9 r15_1 r15_2 r15_3 r15_4 (fun r16_0 r16_1 r16_2 r16_3 r16_4 =>
(cond ((decide (r15_0 < r16_0)))
(impl_talk_need_g0 N r12 r13 r16_1 r16_2 r16_3 r16_4 (fun r17_0 r17_1 r17_2 r17_3 r17_4 =>
impl_talk_need_g0 N v8 v9 r17_1 r17_2 r17_3 r17_4 (fun r18_0 r18_1 r18_2 r18_3 r18_4 =>
(cond ((decide (r17_0 < r18_0)))
((gd ((decide (0 ≤ v3)))
((gd ((decide (v3 < (((strOf [48, 49, 50, 51, 52, 53, 54, 55, 56, 57, 97, 98, 99, 100, 101, 102])).size : Int))))
(self r10 r11 r18_1 r18_2 r18_3 r18_4 (fun r19_0 r19_1 r19_2 r19_3 r19_4 =>
(gd ((decide (((strOf (((([] : List Int) ++ [v0]) ++ [(bt ((strOf [48, 49, 50, 51, 52, 53, 54, 55, 56, 57, 97, 98, 99, 100, 101, 102])) v3)])))).size + r19_0.size ≤ 9223372036854775807)))
(self r12 r13 r19_1 r19_2 r19_3 r19_4 (fun r20_0 r20_1 r20_2 r20_3 r20_4 =>
(gd ((decide ((((strOf (((([] : List Int) ++ [v0]) ++ [(bt ((strOf [48, 49, 50, 51, 52, 53, 54, 55, 56, 57, 97, 98, 99, 100, 101, 102])) v3)]))) ++ r19_0)).size + r20_0.size ≤ 9223372036854775807)))
(self r10 r11 r18_1 r18_2 r18_3 r18_4 (fun r21_0 r21_1 r21_2 r21_3 r21_4 =>
(gd ((decide (((strOf (((([] : List Int) ++ [v0]) ++ [(bt ((strOf [48, 49, 50, 51, 52, 53, 54, 55, 56, 57, 97, 98, 99, 100, 101, 102])) v3)])))).size + r21_0.size ≤ 9223372036854775807)))
(self r12 r13 r21_1 r21_2 r21_3 r21_4 (fun r22_0 r22_1 r22_2 r22_3 r22_4 =>
(gd ((decide ((((strOf (((([] : List Int) ++ [v0]) ++ [(bt ((strOf [48, 49, 50, 51, 52, 53, 54, 55, 56, 57, 97, 98, 99, 100, 101, 102])) v3)]))) ++ r21_0)).size + r22_0.size ≤ 9223372036854775807)))
(self r12 r13 r21_1 r21_2 r21_3 r21_4 (fun r23_0 r23_1 r23_2 r23_3 r23_4 =>
(gd ((decide (((strOf (((([] : List Int) ++ [v0]) ++ [(bt ((strOf [48, 49, 50, 51, 52, 53, 54, 55, 56, 57, 97, 98, 99, 100, 101, 102])) v3)])))).size + r21_0.size ≤ 9223372036854775807)))
((gd ((decide ((((strOf (((([] : List Int) ++ [v0]) ++ [(bt ((strOf [48, 49, 50, 51, 52, 53, 54, 55, 56, 57, 97, 98, 99, 100, 101, 102])) v3)]))) ++ r21_0)).size + r23_0.size ≤ 9223372036854775807)))
((impl_talk_text_t12 ((((strOf (((([] : List Int) ++ [v0]) ++ [(bt ((strOf [48, 49, 50, 51, 52, 53, 54, 55, 56, 57, 97, 98, 99, 100, 101, 102])) v3)]))) ++ r21_0) ++ r22_0)) r22_1 r22_2 r22_3 r22_4 ((((strOf (((([] : List Int) ++ [v0]) ++ [(bt ((strOf [48, 49, 50, 51, 52, 53, 54, 55, 56, 57, 97, 98, 99, 100, 101, 102])) v3)]))) ++ r21_0) ++ r23_0)) r23_1 r23_2 r23_3 r23_4
((impl_talk_text_t12 ((((strOf (((([] : List Int) ++ [v0]) ++ [(bt ((strOf [48, 49, 50, 51, 52, 53, 54, 55, 56, 57, 97, 98, 99, 100, 101, 102])) v3)]))) ++ r19_0) ++ r20_0)) r20_1 r20_2 r20_3 r20_4 ((((strOf (((([] : List Int) ++ [v0]) ++ [(bt ((strOf [48, 49, 50, 51, 52, 53, 54, 55, 56, 57, 97, 98, 99, 100, 101, 102])) v3)]))) ++ r21_0) ++ r22_0)) r22_1 r22_2 r22_3 r22_4
(k0 ((((strOf (((([] : List Int) ++ [v0]) ++ [(bt ((strOf [48, 49, 50, 51, 52, 53, 54, 55, 56, 57, 97, 98, 99, 100, 101, 102])) v3)]))) ++ r19_0) ++ r20_0)) r20_1 r20_2 r20_3 r20_4))))))))))))))))))))))))))
(rec_ v0 v1 v2 ((w64 (v3 + 1))) r18_1 r18_2 r18_3 r18_4 v8 v9 v10)))))
(rec_ v0 v1 v2 ((w64 (v3 + 1))) r16_1 r16_2 r16_3 r16_4 v8 v9 v10)))))
(rec_ v0 v1 v2 ((w64 (v3 + 1))) v4 v5 v6 v7 v8 v9 v10)))
(k1 v1 v2 v4 v5 v6 v7 v8 v9 v10))
def impl_talk_text_l2 {β : Type} (N : Nat) (self : Int → Int → Int → Int → Int → Mp → (ByteArray → Int → Int → Int → Mp → Option β) → Option β)  : Nat → Int → Int → Int → Int → Int → Int → Int → Mp → Int → Int → List Int → (ByteArray → Int → Int → Int → Mp → Option β) → (Int → Int → Int → Int → Int → Mp → Int → Int → List Int → Option β) → Option β
  | 0, _, _, _, _, _, _, _, _, _, _, _, _, _ => none
  | F + 1, v0, v1, v2, v3, v4, v5, v6, v7, v8, v9, v10, k0, k1 => impl_talk_text_l2b N self  v0 v1 v2 v3 v4 v5 v6 v7 v8 v9 v10 (fun v0 v1 v2 v3 v4 v5 v6 v7 v8 v9 v10 => impl_talk_text_l2 N self  F v0 v1 v2 v3 v4 v5 v6 v7 v8 v9 v10 k0 k1) k0 k1
def impl_talk_text_l0b {β : Type} (N : Nat) (self : Int → Int → Int → Int → Int → Mp → (ByteArray → Int → Int → Int → Mp → Option β) → Option β)  (v0 : Int) (v1 : Int) (v2 : Int) (v3 : Int) (v4 : Int) (v5 : Mp) (v6 : Int) (v7 : Int) (v8 : List Int) (rec_ : Int → Int → Int → Int → Int → Mp → Int → Int → List Int → Option β) (k0 : ByteArray → Int → Int → Int → Mp → Option β) (k1 : Int → Int → Int → Mp → Option β) : Option β :=
(cond ((decide (v1 < v0)))
((gd ((decide (0 ≤ v1)))
((gd ((decide (v1 < (v8.length : Int))))
(impl_talk_text_l2 N self  N ((rd 0 v8 v1)) v0 v1 0 v2 v3 v4 v5 v6 v7 v8 (fun e24_0 e24_1 e24_2 e24_3 e24_4 =>
k0 e24_0 e24_1 e24_2 e24_3 e24_4) (fun e25_0 e25_1 e25_2 e25_3 e25_4 e25_5 e25_6 e25_7 e25_8 =>
rec_ e25_0 ((w64 (e25_1 + 1))) e25_2 e25_3 e25_4 e25_5 e25_6 e25_7 e25_8))))))
(k1 v2 v3 v4 v5))
def impl_talk_text_l0 {β : Type} (N : Nat) (self : Int → Int → Int → Int → Int → Mp → (ByteArray → Int → Int → Int → Mp → Option β) → Option β)  : Nat → Int → Int → Int → Int → Int → Mp → Int → Int → List Int → (ByteArray → Int → Int → Int → Mp → Option β) → (Int → Int → Int → Mp → Option β) → Option β
  | 0, _, _, _, _, _, _, _, _, _, _, _ => none
  | F + 1, v0, v1, v2, v3, v4, v5, v6, v7, v8, k0, k1 => impl_talk_text_l0b N self  v0 v1 v2 v3 v4 v5 v6 v7 v8 (fun v0 v1 v2 v3 v4 v5 v6 v7 v8 => impl_talk_text_l0 N self  F v0 v1 v2 v3 v4 v5 v6 v7 v8 k0 k1) k0 k1
def impl_talk_text_g0_b {β : Type} (N : Nat) (self : Int → Int → Int → Int → Int → Mp → (ByteArray → Int → Int → Int → Mp → Option β) → Option β) (a0 : Int) (a1 : Int) (a2 : Int) (a3 : Int) (a4 : Int) (a5 : Mp) (k0 : ByteArray → Int → Int → Int → Mp → Option β) : Option β :=
impl_talk_value_g0 N a0 a1 a2 a3 a4 a5 (fun r8_0 r8_1 r8_2 r8_3 r8_4 =>
(cond ((decide (r8_0 ≥ 0)))
(impl_FormatInt N r8_0 fun r9 =>
k0 r9 r8_1 r8_2 r8_3 r8_4)
(impl_talk_text_l0 N self  N (((((([] : List Int) ++ [65]) ++ [66])).length : Int)) 0 r8_1 r8_2 r8_3 r8_4 a0 a1 (((([] : List Int) ++ [65]) ++ [66])) (fun e26_0 e26_1 e26_2 e26_3 e26_4 =>
k0 e26_0 e26_1 e26_2 e26_3 e26_4) (fun e27_0 e27_1 e27_2 e27_3 =>
k0 ByteArray.empty e27_0 e27_1 e27_2 e27_3))))
def impl_talk_text_g0_f {β : Type} (N : Nat) : Nat → Int → Int → Int → Int → Int → Mp → (ByteArray → Int → Int → Int → Mp → Option β) → Option β
  | 0, _, _, _, _, _, _, _ => none
  | F + 1, a0, a1, a2, a3, a4, a5, k0 => impl_talk_text_g0_b N (impl_talk_text_g0_f N F) a0 a1 a2 a3 a4 a5 k0
def impl_talk_text_g0 {β : Type} (N : Nat) (a0 : Int) (a1 : Int) (a2 : Int) (a3 : Int) (a4 : Int) (a5 : Mp) (k0 : ByteArray → Int → Int → Int → Mp → Option β) : Option β := impl_talk_text_g0_f N N a0 a1 a2 a3 a4 a5 k0
/-! loop.example/g03403/impl.ProtocolOf -/
def impl_ProtocolOf {β : Type} (N : Nat) (a0 : Int) (a1 : Int) (a2 : Int) (k : ByteArray → Bool → Option β) : Option β :=
impl_Table_talking_g0 N a0 a1 a2 (fun r5_0 r5_1 =>
k ByteArray.empty false) (fun r6_0 r6_1 r6_3 r6_4 r6_5 r6_6 =>
impl_talk_text_g0 N r6_0 r6_1 r6_3 r6_4 r6_5 r6_6 (fun r7_0 r7_1 r7_2 r7_3 r7_4 =>
k r7_0 true))
/-! loop.example/g03403/laws.FnExactProtocolOf -/
def laws_FnExactProtocolOf {β : Type} (N : Nat) (a0 : Int) (a1 : Int) (a2 : Int) (k : Bool → Option β) : Option β :=
laws_toTable N a0 a1 fun r4 r5 =>
spec_ProtocolOf N r4 r5 a2 fun r6 r7 =>
laws_toTable N a0 a1 fun r8 r9 =>
impl_ProtocolOf N r8 r9 a2 fun r10 r11 =>
(cond ((!(r10.toList == r6.toList)))
(k false)
((cond ((!(r11 == r7)))
(k false)
(k true))))
/-! loop.example/g03403/spec.ClaimOfProtocol -/
def spec_ClaimOfProtocol {β : Type} (N : Nat) (a0 : Int) (a1 : Int) (a2 : Int) (k : Int → Int → Int → Int → Int → ByteArray → List Int → Bool → Option β) : Option β :=
spec_ProtocolOf N a0 a1 a2 fun r11 r12 =>
(cond (!r12)
(k 0 0 0 0 0 ByteArray.empty (([] : List Int)) false)
(spec_LeastBits N a0 a1 a2 fun r13 =>
k 5 a0 a1 r13 a2 r11 (([] : List Int)) true))
/-! loop.example/g03403/impl.LeastBits -/
def impl_LeastBits {β : Type} (N : Nat) (a0 : Int) (a1 : Int) (a2 : Int) (k : Int → Option β) : Option β :=
impl_Table_talking_g0 N a0 a1 a2 (fun r4_0 r4_1 =>
k (-1)) (fun r5_0 r5_1 r5_3 r5_4 r5_5 r5_6 =>
impl_talk_need_g0 N r5_0 r5_1 r5_3 r5_4 r5_5 r5_6 (fun r6_0 r6_1 r6_2 r6_3 r6_4 =>
k r6_0))
/-! loop.example/g03403/impl.ClaimOfProtocol -/
def impl_ClaimOfProtocol {β : Type} (N : Nat) (a0 : Int) (a1 : Int) (a2 : Int) (k : Int → Int → Int → Int → Int → ByteArray → List Int → Bool → Option β) : Option β :=
impl_ProtocolOf N a0 a1 a2 fun r11 r12 =>
(cond (!r12)
(k 0 0 0 0 0 ByteArray.empty (([] : List Int)) false)
(impl_LeastBits N a0 a1 a2 fun r13 =>
k 5 a0 a1 r13 a2 r11 (([] : List Int)) true))
/-! loop.example/g03403/laws.eqTable -/
def laws_eqTable {β : Type} (N : Nat) (a0 : Int) (a1 : Int) (a2 : Int) (a3 : Int) (k : Bool → Option β) : Option β :=
(cond ((a0 != a2))
(k false)
((cond ((a1 != a3))
(k false)
(k true))))
/-! loop.example/g03403/laws.eqIntS -/
def laws_eqIntS_l0b {β : Type} (N : Nat)  (v0 : List Int) (v1 : List Int) (v2 : Int) (rec_ : List Int → List Int → Int → Option β) (k0 : Bool → Option β) (k1 : Option β) : Option β :=
(cond ((decide (v2 < (v0.length : Int))))
((gd ((decide (0 ≤ v2)))
((gd ((decide (v2 < (v0.length : Int))))
((gd ((decide (0 ≤ v2)))
((gd ((decide (v2 < (v1.length : Int))))
((cond (((rd 0 v0 v2) != (rd 0 v1 v2)))
(k0 false)
(rec_ v0 v1 ((w64 (v2 + 1))))))))))))))
(k1 ))
def laws_eqIntS_l0 {β : Type} (N : Nat)  : Nat → List Int → List Int → Int → (Bool → Option β) → (Option β) → Option β
  | 0, _, _, _, _, _ => none
  | F + 1, v0, v1, v2, k0, k1 => laws_eqIntS_l0b N  v0 v1 v2 (fun v0 v1 v2 => laws_eqIntS_l0 N  F v0 v1 v2 k0 k1) k0 k1
def laws_eqIntS {β : Type} (N : Nat) (a0 : List Int) (a1 : List Int) (k : Bool → Option β) : Option β :=
(cond (((a0.length : Int) != (a1.length : Int)))
(k false)
(laws_eqIntS_l0 N  N a0 a1 0 (fun e3_0 =>
k e3_0) (k true)))
/-! loop.example/g03403/laws.eqClaim -/
def laws_eqClaim {β : Type} (N : Nat) (a0 : Int) (a1 : Int) (a2 : Int) (a3 : Int) (a4 : Int) (a5 : ByteArray) (a6 : List Int) (a7 : Int) (a8 : Int) (a9 : Int) (a10 : Int) (a11 : Int) (a12 : ByteArray) (a13 : List Int) (k : Bool → Option β) : Option β :=
(cond ((a0 != a7))
(k false)
(laws_eqTable N a1 a2 a8 a9 fun r15 =>
(cond (!r15)
(k false)
((cond ((a3 != a10))
(k false)
((cond ((a4 != a11))
(k false)
((cond ((!(a5.toList == a12.toList)))
(k false)
(laws_eqIntS N a6 a13 fun r16 =>
(cond (!r16)
(k false)
(k true))))))))))))
/-! loop.example/g03403/laws.heldIntS -/
def laws_heldIntS_l0b {β : Type} (N : Nat)  (v0 : List Int) (v1 : Int) (v2 : Int) (rec_ : List Int → Int → Int → Option β) (k0 : Int → Option β) (k1 : Int → Option β) : Option β :=
(cond ((decide (v2 < (v0.length : Int))))
((gd ((decide (0 ≤ v2)))
((gd ((decide (v2 < (v0.length : Int))))
((cond (((rd 0 v0 v2) != v1))
(k0 (-1))
(rec_ v0 ((w64 (v1 + 1))) ((w64 (v2 + 1))))))))))
(k1 v1))
def laws_heldIntS_l0 {β : Type} (N : Nat)  : Nat → List Int → Int → Int → (Int → Option β) → (Int → Option β) → Option β
  | 0, _, _, _, _, _ => none
  | F + 1, v0, v1, v2, k0, k1 => laws_heldIntS_l0b N  v0 v1 v2 (fun v0 v1 v2 => laws_heldIntS_l0 N  F v0 v1 v2 k0 k1) k0 k1
def laws_heldIntS {β : Type} (N : Nat) (a0 : List Int) (a1 : Int) (k : Int → Option β) : Option β :=
laws_heldIntS_l0 N  N a0 a1 0 (fun e3_0 =>
k e3_0) (fun e4_0 =>
k e4_0)
/-! loop.example/g03403/laws.heldClaim -/
def laws_heldClaim {β : Type} (N : Nat) (a0 : Int) (a1 : Int) (a2 : Int) (a3 : Int) (a4 : Int) (a5 : ByteArray) (a6 : List Int) (a7 : Int) (k : Int → Option β) : Option β :=
laws_heldIntS N a6 a7 fun r9 =>
(cond ((decide (r9 < 0)))
(k (-1))
(k r9))
/-! loop.example/g03403/laws.markIntS -/
def laws_markIntS_l0b {β : Type} (N : Nat)  (v0 : Int) (v1 : Int) (v2 : List Int) (rec_ : Int → Int → List Int → Option β) (k0 : Int → List Int → Option β) : Option β :=
(cond ((decide (v1 < (v2.length : Int))))
((gd ((decide (0 ≤ v1)))
((gd ((decide (v1 < (v2.length : Int))))
(rec_ ((w64 (v0 + 1))) ((w64 (v1 + 1))) ((wr v2 v1 v0)))))))
(k0 v0 v2))
def laws_markIntS_l0 {β : Type} (N : Nat)  : Nat → Int → Int → List Int → (Int → List Int → Option β) → Option β
  | 0, _, _, _, _ => none
  | F + 1, v0, v1, v2, k0 => laws_markIntS_l0b N  v0 v1 v2 (fun v0 v1 v2 => laws_markIntS_l0 N  F v0 v1 v2 k0) k0
def laws_markIntS {β : Type} (N : Nat) (a0 : List Int) (a1 : Int) (k : Int → List Int → Option β) : Option β :=
laws_markIntS_l0 N  N a1 0 a0 (fun e3_0 e3_1 =>
k e3_0 e3_1)
/-! loop.example/g03403/laws.markClaim -/
def laws_markClaim {β : Type} (N : Nat) (a0 : Int) (a1 : Int) (a2 : Int) (a3 : Int) (a4 : Int) (a5 : ByteArray) (a6 : List Int) (a7 : Int) (k : Int → List Int → Option β) : Option β :=
laws_markIntS N a6 a7 fun r9 m10 =>
k r9 m10
/-! loop.example/g03403/laws.FnExactClaimOfProtocol -/
def laws_FnExactClaimOfProtocol {β : Type} (N : Nat) (a0 : Int) (a1 : Int) (a2 : Int) (k : Bool → Option β) : Option β :=
laws_toTable N a0 a1 fun r4 r5 =>
spec_ClaimOfProtocol N r4 r5 a2 fun r6 r7 r8 r9 r10 r11 r12 r13 =>
laws_toTable N a0 a1 fun r14 r15 =>
impl_ClaimOfProtocol N r14 r15 a2 fun r16 r17 r18 r19 r20 r21 r22 r23 =>
laws_eqClaim N r16 r17 r18 r19 r20 r21 r22 r6 r7 r8 r9 r10 r11 r12 fun r24 =>
(cond (!r24)
(k false)
((cond ((!(r23 == r13)))
(k false)
(laws_markClaim N r16 r17 r18 r19 r20 r21 r22 1 fun r25 m26 =>
laws_heldClaim N r16 r17 r18 r19 r20 r21 m26 1 fun r27 =>
(cond ((decide (r27 < 0)))
(k false)
((cond ((r27 != r25))
(k false)
(laws_toTable N a0 a1 fun r28 r29 =>
impl_ClaimOfProtocol N r28 r29 a2 fun r30 r31 r32 r33 r34 r35 r36 r37 =>
laws_eqClaim N r30 r31 r32 r33 r34 r35 r36 r6 r7 r8 r9 r10 r11 r12 fun r38 =>
(cond (!r38)
(k false)
((cond ((!(r37 == r13)))
(k false)
(laws_heldClaim N r16 r17 r18 r19 r20 r21 m26 1 fun r39 =>
(cond ((decide (r39 < 0)))
(k false)
((cond ((r39 != r25))
(k false)
(k true))))))))))))))))
end Go.Proofs.YtdkjnadhgdneaaaDoor
