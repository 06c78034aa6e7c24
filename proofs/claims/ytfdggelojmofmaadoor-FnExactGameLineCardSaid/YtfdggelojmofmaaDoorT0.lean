/- The texts of the functions that the claims reach: plain Lean, no program. -/
import Derived.Test.YtfdggelojmofmaaDoorRvLib
namespace Go.Proofs.YtfdggelojmofmaaDoor
open Go.Rv
set_option linter.unusedVariables false
set_option maxRecDepth 100000
/-! loop.example/g03403/laws.toTable -/
def laws_toTable {β : Type} (N : Nat) (a0 : Int) (a1 : Int) (k : Int → Int → Option β) : Option β :=
k a0 a1
/-! loop.example/g03403/spec.l1In -/
def spec_l1In {β : Type} (N : Nat) (a0 : Int) (a1 : Int) (a2 : Int) (k : Bool → Option β) : Option β :=
(cond ((decide (a0 ≥ a1)))
(k ((decide (a0 ≤ a2))))
(k false))
/-! loop.example/g03403/spec.IsTable -/
def spec_IsTable {β : Type} (N : Nat) (a0 : Int) (a1 : Int) (k : Bool → Option β) : Option β :=
spec_l1In N a0 0 5 fun r3 =>
(cond r3
((gd ((decide (0 ≤ a0)))
((gd ((decide (0 ≤ (shlI .u64 1 a0))))
(spec_l1In N a1 0 ((w64 ((shlI .i64 1 (shlI .u64 1 a0)) - 1))) fun r4 =>
k r4)))))
(k false))
/-! loop.example/g03403/spec.l3Insert -/
def spec_l3Insert {β : Type} (N : Nat) (a0 : Int) (a1 : Int) (a2 : Int) (k : Int → Option β) : Option β :=
(gd ((decide (0 ≤ a1)))
((gd ((decide (0 ≤ a1)))
((gd ((decide (0 ≤ (w64 (a1 + 1)))))
((gd ((decide (0 ≤ a1)))
(k ((bits .or .i64 (bits .or .i64 (shlI .i64 (shrI .i64 a0 a1) (w64 (a1 + 1))) (shlI .i64 a2 a1)) (bits .and .i64 a0 (w64 ((shlI .i64 1 a1) - 1)))))))))))))
/-! loop.example/g03403/spec.l3Restrict -/
def spec_l3Restrict_l0b {β : Type} (N : Nat)  (v0 : Int) (v1 : Int) (v2 : Int) (v3 : Int) (v4 : Int) (v5 : Int) (v6 : Int) (v7 : Int) (rec_ : Int → Int → Int → Int → Int → Int → Int → Int → Option β) (k0 : Int → Int → Int → Int → Int → Option β) : Option β :=
(gd ((decide (0 ≤ (w64 (v4 - 1)))))
((cond ((decide (v3 < (shlI .i64 1 (w64 (v4 - 1))))))
(spec_l3Insert N v3 v0 v1 fun r6 =>
(gd ((decide (0 ≤ r6)))
((gd ((decide (0 ≤ v3)))
(rec_ v0 v1 ((bits .or .i64 v2 (shlI .i64 (bits .and .i64 (shrI .i64 v5 r6) 1) v3))) ((w64 (v3 + 1))) v4 v5 v6 v7)))))
(k0 v2 v4 v5 v6 v7))))
def spec_l3Restrict_l0 {β : Type} (N : Nat)  : Nat → Int → Int → Int → Int → Int → Int → Int → Int → (Int → Int → Int → Int → Int → Option β) → Option β
  | 0, _, _, _, _, _, _, _, _, _ => none
  | F + 1, v0, v1, v2, v3, v4, v5, v6, v7, k0 => spec_l3Restrict_l0b N  v0 v1 v2 v3 v4 v5 v6 v7 (fun v0 v1 v2 v3 v4 v5 v6 v7 => spec_l3Restrict_l0 N  F v0 v1 v2 v3 v4 v5 v6 v7 k0) k0
def spec_l3Restrict {β : Type} (N : Nat) (a0 : Int) (a1 : Int) (a2 : Int) (a3 : Int) (k : Int → Int → Option β) : Option β :=
spec_l3Restrict_l0 N  N a2 a3 0 0 a0 a1 0 0 (fun e7_0 e7_1 e7_2 e7_3 e7_4 =>
k ((w64 (e7_1 - 1))) e7_0)
/-! loop.example/g03403/spec.l15Monotone -/
def spec_l15Monotone_l0b {β : Type} (N : Nat)  (v0 : Int) (v1 : Int) (v2 : Int) (rec_ : Int → Int → Int → Option β) (k0 : Bool → Option β) (k1 : Option β) : Option β :=
(cond ((decide (v0 < v1)))
(spec_l3Restrict N v1 v2 v0 0 fun r3 r4 =>
spec_l3Restrict N v1 v2 v0 1 fun r5 r6 =>
(cond (((bits .and .i64 r4 r6) != r4))
(k0 false)
(rec_ ((w64 (v0 + 1))) v1 v2)))
(k1 ))
def spec_l15Monotone_l0 {β : Type} (N : Nat)  : Nat → Int → Int → Int → (Bool → Option β) → (Option β) → Option β
  | 0, _, _, _, _, _ => none
  | F + 1, v0, v1, v2, k0, k1 => spec_l15Monotone_l0b N  v0 v1 v2 (fun v0 v1 v2 => spec_l15Monotone_l0 N  F v0 v1 v2 k0 k1) k0 k1
def spec_l15Monotone {β : Type} (N : Nat) (a0 : Int) (a1 : Int) (k : Bool → Option β) : Option β :=
spec_l15Monotone_l0 N  N 0 a0 a1 (fun e7_0 =>
k e7_0) (k true)
/-! loop.example/g03403/spec.IsSimpleGame -/
def spec_IsSimpleGame {β : Type} (N : Nat) (a0 : Int) (a1 : Int) (k : Bool → Option β) : Option β :=
spec_IsTable N a0 a1 fun r3 =>
(cond r3
(spec_l15Monotone N a0 a1 fun r4 =>
(cond r4
((cond (((bits .and .i64 a1 1) == 0))
((gd ((decide (0 ≤ a0)))
((gd ((decide (0 ≤ (wu64 ((shlI .u64 1 a0) - 1)))))
(k (((bits .and .i64 (shrI .i64 a1 (wu64 ((shlI .u64 1 a0) - 1))) 1) == 1)))))))
(k false)))
(k false)))
(k false))
/-! loop.example/g03403/spec.MinimalPoints -/
def spec_MinimalPoints_l2b {β : Type} (N : Nat)  (v0 : Int) (v1 : Bool) (v2 : Int) (v3 : Int) (v4 : Int) (v5 : List Int) (rec_ : Int → Bool → Int → Int → Int → List Int → Option β) (k0 : Int → Bool → Int → Int → List Int → Option β) : Option β :=
(cond ((decide (v2 < v3)))
((cond v1
((gd ((decide (0 ≤ v2)))
((cond (((bits .and .i64 (shrI .i64 v0 v2) 1) == 0))
(rec_ v0 true ((w64 (v2 + 1))) v3 v4 v5)
((gd ((decide (0 ≤ v2)))
((gd ((decide (0 ≤ (bits .xor .i64 v0 (shlI .i64 1 v2)))))
(rec_ v0 (((bits .and .i64 (shrI .i64 v4 (bits .xor .i64 v0 (shlI .i64 1 v2))) 1) == 0)) ((w64 (v2 + 1))) v3 v4 v5)))))))))
(rec_ v0 false ((w64 (v2 + 1))) v3 v4 v5)))
(k0 v0 v1 v3 v4 v5))
def spec_MinimalPoints_l2 {β : Type} (N : Nat)  : Nat → Int → Bool → Int → Int → Int → List Int → (Int → Bool → Int → Int → List Int → Option β) → Option β
  | 0, _, _, _, _, _, _, _ => none
  | F + 1, v0, v1, v2, v3, v4, v5, k0 => spec_MinimalPoints_l2b N  v0 v1 v2 v3 v4 v5 (fun v0 v1 v2 v3 v4 v5 => spec_MinimalPoints_l2 N  F v0 v1 v2 v3 v4 v5 k0) k0
def spec_MinimalPoints_l0b {β : Type} (N : Nat)  (v0 : Int) (v1 : Int) (v2 : Int) (v3 : List Int) (rec_ : Int → Int → Int → List Int → Option β) (k0 : List Int → Option β) : Option β :=
spec_IsTable N v1 v2 fun r3 =>
(cond r3
((gd ((decide (0 ≤ v1)))
((cond ((decide (v0 < (shlI .i64 1 v1))))
((gd ((decide (0 ≤ v0)))
(spec_MinimalPoints_l2 N  N v0 (((bits .and .i64 (shrI .i64 v2 v0) 1) == 1)) 0 v1 v2 v3 (fun e4_0 e4_1 e4_2 e4_3 e4_4 =>
(cond e4_1
((gd ((decide ((e4_4.length + ((([] : List Int) ++ [e4_0])).length) * 8 ≤ 140737488355328)))
(rec_ ((w64 (e4_0 + 1))) e4_2 e4_3 ((e4_4 ++ (([] : List Int) ++ [e4_0]))))))
(rec_ ((w64 (e4_0 + 1))) e4_2 e4_3 e4_4))))))
(k0 v3)))))
(k0 v3))
def spec_MinimalPoints_l0 {β : Type} (N : Nat)  : Nat → Int → Int → Int → List Int → (List Int → Option β) → Option β
  | 0, _, _, _, _, _ => none
  | F + 1, v0, v1, v2, v3, k0 => spec_MinimalPoints_l0b N  v0 v1 v2 v3 (fun v0 v1 v2 v3 => spec_MinimalPoints_l0 N  F v0 v1 v2 v3 k0) k0
def spec_MinimalPoints {β : Type} (N : Nat) (a0 : Int) (a1 : Int) (k : List Int → Option β) : Option β :=
spec_MinimalPoints_l0 N  N 0 a0 a1 (([] : List Int)) (fun e5_0 =>
k e5_0)
/-! loop.example/g03403/spec.FormatInt -/
def spec_FormatInt_l0b {β : Type} (N : Nat)  (v0 : Int) (v1 : ByteArray) (v2 : Bool) (rec_ : Int → ByteArray → Bool → Option β) (k0 : ByteArray → Bool → Option β) : Option β :=
(cond ((v0 != 0))
((cond ((decide ((remI v0 10) < 0)))
((gd ((decide (((strOf ((([] : List Int) ++ [(w8 ((w64 (48 + (w64 (0 - (remI v0 10)))))))])))).size + v1.size ≤ 9223372036854775807)))
(rec_ ((quoI .i64 v0 10)) (((strOf ((([] : List Int) ++ [(w8 ((w64 (48 + (w64 (0 - (remI v0 10)))))))]))) ++ v1)) v2)))
((gd ((decide (((strOf ((([] : List Int) ++ [(w8 ((w64 (48 + (remI v0 10)))))])))).size + v1.size ≤ 9223372036854775807)))
(rec_ ((quoI .i64 v0 10)) (((strOf ((([] : List Int) ++ [(w8 ((w64 (48 + (remI v0 10)))))]))) ++ v1)) v2)))))
(k0 v1 v2))
def spec_FormatInt_l0 {β : Type} (N : Nat)  : Nat → Int → ByteArray → Bool → (ByteArray → Bool → Option β) → Option β
  | 0, _, _, _, _ => none
  | F + 1, v0, v1, v2, k0 => spec_FormatInt_l0b N  v0 v1 v2 (fun v0 v1 v2 => spec_FormatInt_l0 N  F v0 v1 v2 k0) k0
def spec_FormatInt {β : Type} (N : Nat) (a0 : Int) (k : ByteArray → Option β) : Option β :=
(cond ((a0 == 0))
(k ((strOf [48])))
(spec_FormatInt_l0 N  N a0 ByteArray.empty ((decide (a0 < 0))) (fun e2_0 e2_1 =>
(cond e2_1
((gd ((decide (((strOf [45])).size + e2_0.size ≤ 9223372036854775807)))
(k (((strOf [45]) ++ e2_0)))))
(k e2_0)))))
/-! loop.example/g03403/spec.l34Numbers -/
def spec_l34Numbers_l0b {β : Type} (N : Nat)  (v0 : List Int) (v1 : ByteArray) (v2 : Int) (rec_ : List Int → ByteArray → Int → Option β) (k0 : ByteArray → Option β) : Option β :=
(cond ((decide (v2 < (v0.length : Int))))
((cond ((decide (v2 > 0)))
((gd ((decide (v1.size + ((strOf [44])).size ≤ 9223372036854775807)))
((gd ((decide (0 ≤ v2)))
((gd ((decide (v2 < (v0.length : Int))))
(spec_FormatInt N ((rd 0 v0 v2)) fun r2 =>
(gd ((decide (((v1 ++ (strOf [44]))).size + r2.size ≤ 9223372036854775807)))
(rec_ v0 (((v1 ++ (strOf [44])) ++ r2)) ((w64 (v2 + 1))))))))))))
((gd ((decide (0 ≤ v2)))
((gd ((decide (v2 < (v0.length : Int))))
(spec_FormatInt N ((rd 0 v0 v2)) fun r3 =>
(gd ((decide (v1.size + r3.size ≤ 9223372036854775807)))
(rec_ v0 ((v1 ++ r3)) ((w64 (v2 + 1))))))))))))
(k0 v1))
def spec_l34Numbers_l0 {β : Type} (N : Nat)  : Nat → List Int → ByteArray → Int → (ByteArray → Option β) → Option β
  | 0, _, _, _, _ => none
  | F + 1, v0, v1, v2, k0 => spec_l34Numbers_l0b N  v0 v1 v2 (fun v0 v1 v2 => spec_l34Numbers_l0 N  F v0 v1 v2 k0) k0
def spec_l34Numbers {β : Type} (N : Nat) (a0 : List Int) (k : ByteArray → Option β) : Option β :=
spec_l34Numbers_l0 N  N a0 ByteArray.empty 0 (fun e4_0 =>
(cond ((e4_0.toList == ByteArray.empty.toList))
(k ((strOf [110, 111, 110, 101])))
(k e4_0)))
/-! loop.example/g03403/spec.InfluenceOf -/
def spec_InfluenceOf_l0b {β : Type} (N : Nat)  (v0 : Int) (v1 : Int) (v2 : Int) (v3 : Int) (v4 : Int) (rec_ : Int → Int → Int → Int → Int → Option β) (k0 : Int → Option β) : Option β :=
(gd ((decide (0 ≤ v3)))
((cond ((decide (v2 < (shlI .i64 1 v3))))
((gd ((decide (0 ≤ v2)))
((gd ((decide (0 ≤ v0)))
((gd ((decide (0 ≤ (bits .xor .i64 v2 (shlI .i64 1 v0)))))
(rec_ v0 ((w64 (v1 + (bits .and .i64 (bits .xor .i64 (shrI .i64 v4 v2) (shrI .i64 v4 (bits .xor .i64 v2 (shlI .i64 1 v0)))) 1)))) ((w64 (v2 + 1))) v3 v4)))))))
(k0 v1))))
def spec_InfluenceOf_l0 {β : Type} (N : Nat)  : Nat → Int → Int → Int → Int → Int → (Int → Option β) → Option β
  | 0, _, _, _, _, _, _ => none
  | F + 1, v0, v1, v2, v3, v4, k0 => spec_InfluenceOf_l0b N  v0 v1 v2 v3 v4 (fun v0 v1 v2 v3 v4 => spec_InfluenceOf_l0 N  F v0 v1 v2 v3 v4 k0) k0
def spec_InfluenceOf {β : Type} (N : Nat) (a0 : Int) (a1 : Int) (a2 : Int) (k : Int → Option β) : Option β :=
spec_IsTable N a0 a1 fun r4 =>
(cond (!r4)
(k (-1))
(spec_l1In N a2 0 ((w64 (a0 - 1))) fun r5 =>
(cond (!r5)
(k (-1))
(spec_InfluenceOf_l0 N  N a2 0 0 a0 a1 (fun e6_0 =>
k e6_0)))))
/-! loop.example/g03403/spec.BanzhafNumbers -/
def spec_BanzhafNumbers_l0b {β : Type} (N : Nat)  (v0 : Int) (v1 : Int) (v2 : Int) (v3 : List Int) (rec_ : Int → Int → Int → List Int → Option β) (k0 : List Int → Option β) : Option β :=
spec_IsSimpleGame N v1 v2 fun r3 =>
(cond r3
((cond ((decide (v0 < v1)))
(spec_InfluenceOf N v1 v2 v0 fun r4 =>
(gd ((decide ((v3.length + ((([] : List Int) ++ [(quoI .i64 r4 2)])).length) * 8 ≤ 140737488355328)))
(rec_ ((w64 (v0 + 1))) v1 v2 ((v3 ++ (([] : List Int) ++ [(quoI .i64 r4 2)]))))))
(k0 v3)))
(k0 v3))
def spec_BanzhafNumbers_l0 {β : Type} (N : Nat)  : Nat → Int → Int → Int → List Int → (List Int → Option β) → Option β
  | 0, _, _, _, _, _ => none
  | F + 1, v0, v1, v2, v3, k0 => spec_BanzhafNumbers_l0b N  v0 v1 v2 v3 (fun v0 v1 v2 v3 => spec_BanzhafNumbers_l0 N  F v0 v1 v2 v3 k0) k0
def spec_BanzhafNumbers {β : Type} (N : Nat) (a0 : Int) (a1 : Int) (k : List Int → Option β) : Option β :=
spec_BanzhafNumbers_l0 N  N 0 a0 a1 (([] : List Int)) (fun e5_0 =>
k e5_0)
/-! loop.example/g03403/spec.l2Count -/
def spec_l2Count_l0b {β : Type} (N : Nat)  (v0 : Int) (v1 : Int) (rec_ : Int → Int → Option β) (k0 : Int → Option β) : Option β :=
(cond ((decide (v1 > 0)))
(rec_ ((w64 (v0 + (bits .and .i64 v1 1)))) ((shrI .i64 v1 1)))
(k0 v0))
def spec_l2Count_l0 {β : Type} (N : Nat)  : Nat → Int → Int → (Int → Option β) → Option β
  | 0, _, _, _ => none
  | F + 1, v0, v1, k0 => spec_l2Count_l0b N  v0 v1 (fun v0 v1 => spec_l2Count_l0 N  F v0 v1 k0) k0
def spec_l2Count {β : Type} (N : Nat) (a0 : Int) (k : Int → Option β) : Option β :=
spec_l2Count_l0 N  N 0 a0 (fun e2_0 =>
k e2_0)
/-! loop.example/g03403/spec.ShapleyNumbers -/
def spec_ShapleyNumbers_l2b {β : Type} (N : Nat)  (v0 : Int) (v1 : Int) (v2 : Int) (v3 : Int) (v4 : Int) (v5 : List Int) (v6 : List Int) (rec_ : Int → Int → Int → Int → Int → List Int → List Int → Option β) (k0 : Int → Int → Int → Int → List Int → List Int → Option β) : Option β :=
(gd ((decide (0 ≤ v3)))
((cond ((decide (v2 < (shlI .i64 1 v3))))
((gd ((decide (0 ≤ v0)))
((cond (((bits .and .i64 (shrI .i64 v2 v0) 1) == 0))
((gd ((decide (0 ≤ v2)))
((cond (((bits .and .i64 (shrI .i64 v4 v2) 1) == 0))
((gd ((decide (0 ≤ v0)))
((gd ((decide (0 ≤ (bits .or .i64 v2 (shlI .i64 1 v0)))))
((cond (((bits .and .i64 (shrI .i64 v4 (bits .or .i64 v2 (shlI .i64 1 v0))) 1) == 1))
(spec_l2Count N v2 fun r4 =>
(gd ((decide (0 ≤ r4)))
((gd ((decide (r4 < (v6.length : Int))))
((gd ((decide (0 ≤ (w64 ((w64 (v3 - 1)) - r4)))))
((gd ((decide ((w64 ((w64 (v3 - 1)) - r4)) < (v6.length : Int))))
(rec_ v0 ((w64 (v1 + (w64 ((rd 0 v6 r4) * (rd 0 v6 (w64 ((w64 (v3 - 1)) - r4)))))))) ((w64 (v2 + 1))) v3 v4 v5 v6)))))))))
(rec_ v0 v1 ((w64 (v2 + 1))) v3 v4 v5 v6)))))))
(rec_ v0 v1 ((w64 (v2 + 1))) v3 v4 v5 v6)))))
(rec_ v0 v1 ((w64 (v2 + 1))) v3 v4 v5 v6)))))
(k0 v0 v1 v3 v4 v5 v6))))
def spec_ShapleyNumbers_l2 {β : Type} (N : Nat)  : Nat → Int → Int → Int → Int → Int → List Int → List Int → (Int → Int → Int → Int → List Int → List Int → Option β) → Option β
  | 0, _, _, _, _, _, _, _, _ => none
  | F + 1, v0, v1, v2, v3, v4, v5, v6, k0 => spec_ShapleyNumbers_l2b N  v0 v1 v2 v3 v4 v5 v6 (fun v0 v1 v2 v3 v4 v5 v6 => spec_ShapleyNumbers_l2 N  F v0 v1 v2 v3 v4 v5 v6 k0) k0
def spec_ShapleyNumbers_l0b {β : Type} (N : Nat)  (v0 : Int) (v1 : Int) (v2 : Int) (v3 : List Int) (v4 : List Int) (rec_ : Int → Int → Int → List Int → List Int → Option β) (k0 : List Int → Option β) : Option β :=
(cond ((decide (v0 < v1)))
(spec_ShapleyNumbers_l2 N  N v0 0 0 v1 v2 v3 v4 (fun e5_0 e5_1 e5_2 e5_3 e5_4 e5_5 =>
(gd ((decide ((e5_4.length + ((([] : List Int) ++ [e5_1])).length) * 8 ≤ 140737488355328)))
(rec_ ((w64 (e5_0 + 1))) e5_2 e5_3 ((e5_4 ++ (([] : List Int) ++ [e5_1]))) e5_5))))
(k0 v3))
def spec_ShapleyNumbers_l0 {β : Type} (N : Nat)  : Nat → Int → Int → Int → List Int → List Int → (List Int → Option β) → Option β
  | 0, _, _, _, _, _, _ => none
  | F + 1, v0, v1, v2, v3, v4, k0 => spec_ShapleyNumbers_l0b N  v0 v1 v2 v3 v4 (fun v0 v1 v2 v3 v4 => spec_ShapleyNumbers_l0 N  F v0 v1 v2 v3 v4 k0) k0
def spec_ShapleyNumbers {β : Type} (N : Nat) (a0 : Int) (a1 : Int) (k : List Int → Option β) : Option β :=
spec_IsSimpleGame N a0 a1 fun r3 =>
(cond (!r3)
(k (([] : List Int)))
(spec_ShapleyNumbers_l0 N  N 0 a0 a1 (([] : List Int)) (((((((([] : List Int) ++ [1]) ++ [1]) ++ [2]) ++ [6]) ++ [24]) ++ [120])) (fun e6_0 =>
k e6_0)))
/-! loop.example/g03403/spec.l2Variable -/
def spec_l2Variable_l0b {β : Type} (N : Nat)  (v0 : Int) (v1 : Int) (v2 : Int) (v3 : Int) (rec_ : Int → Int → Int → Int → Option β) (k0 : Int → Option β) : Option β :=
(gd ((decide (0 ≤ v0)))
((cond ((decide (v3 < (shlI .i64 1 v0))))
((gd ((decide (0 ≤ v1)))
((cond (((bits .and .i64 (shrI .i64 v3 v1) 1) == 1))
((gd ((decide (0 ≤ v3)))
(rec_ v0 v1 ((bits .or .i64 v2 (shlI .i64 1 v3))) ((w64 (v3 + 1))))))
(rec_ v0 v1 v2 ((w64 (v3 + 1))))))))
(k0 v2))))
def spec_l2Variable_l0 {β : Type} (N : Nat)  : Nat → Int → Int → Int → Int → (Int → Option β) → Option β
  | 0, _, _, _, _, _ => none
  | F + 1, v0, v1, v2, v3, k0 => spec_l2Variable_l0b N  v0 v1 v2 v3 (fun v0 v1 v2 v3 => spec_l2Variable_l0 N  F v0 v1 v2 v3 k0) k0
def spec_l2Variable {β : Type} (N : Nat) (a0 : Int) (a1 : Int) (k : Int → Option β) : Option β :=
spec_l2Variable_l0 N  N a0 a1 0 0 (fun e3_0 =>
k e3_0)
/-! loop.example/g03403/spec.VetoPlayers -/
def spec_VetoPlayers_l0b {β : Type} (N : Nat)  (v0 : Int) (v1 : Int) (v2 : Int) (v3 : List Int) (rec_ : Int → Int → Int → List Int → Option β) (k0 : List Int → Option β) : Option β :=
spec_IsSimpleGame N v1 v2 fun r3 =>
(cond r3
((cond ((decide (v0 < v1)))
(spec_l2Variable N v1 v0 fun r4 =>
(cond (((bits .and .i64 v2 r4) == v2))
((gd ((decide ((v3.length + ((([] : List Int) ++ [v0])).length) * 8 ≤ 140737488355328)))
(rec_ ((w64 (v0 + 1))) v1 v2 ((v3 ++ (([] : List Int) ++ [v0]))))))
(rec_ ((w64 (v0 + 1))) v1 v2 v3)))
(k0 v3)))
(k0 v3))
def spec_VetoPlayers_l0 {β : Type} (N : Nat)  : Nat → Int → Int → Int → List Int → (List Int → Option β) → Option β
  | 0, _, _, _, _, _ => none
  | F + 1, v0, v1, v2, v3, k0 => spec_VetoPlayers_l0b N  v0 v1 v2 v3 (fun v0 v1 v2 v3 => spec_VetoPlayers_l0 N  F v0 v1 v2 v3 k0) k0
def spec_VetoPlayers {β : Type} (N : Nat) (a0 : Int) (a1 : Int) (k : List Int → Option β) : Option β :=
spec_VetoPlayers_l0 N  N 0 a0 a1 (([] : List Int)) (fun e5_0 =>
k e5_0)
/-! loop.example/g03403/spec.l3Depends -/
def spec_l3Depends {β : Type} (N : Nat) (a0 : Int) (a1 : Int) (a2 : Int) (k : Bool → Option β) : Option β :=
spec_l3Restrict N a0 a1 a2 0 fun r4 r5 =>
spec_l3Restrict N a0 a1 a2 1 fun r6 r7 =>
k ((r5 != r7))
/-! loop.example/g03403/spec.DummyPlayers -/
def spec_DummyPlayers_l0b {β : Type} (N : Nat)  (v0 : Int) (v1 : Int) (v2 : Int) (v3 : List Int) (rec_ : Int → Int → Int → List Int → Option β) (k0 : List Int → Option β) : Option β :=
spec_IsSimpleGame N v1 v2 fun r3 =>
(cond r3
((cond ((decide (v0 < v1)))
(spec_l3Depends N v1 v2 v0 fun r4 =>
(cond (!r4)
((gd ((decide ((v3.length + ((([] : List Int) ++ [v0])).length) * 8 ≤ 140737488355328)))
(rec_ ((w64 (v0 + 1))) v1 v2 ((v3 ++ (([] : List Int) ++ [v0]))))))
(rec_ ((w64 (v0 + 1))) v1 v2 v3)))
(k0 v3)))
(k0 v3))
def spec_DummyPlayers_l0 {β : Type} (N : Nat)  : Nat → Int → Int → Int → List Int → (List Int → Option β) → Option β
  | 0, _, _, _, _, _ => none
  | F + 1, v0, v1, v2, v3, k0 => spec_DummyPlayers_l0b N  v0 v1 v2 v3 (fun v0 v1 v2 v3 => spec_DummyPlayers_l0 N  F v0 v1 v2 v3 k0) k0
def spec_DummyPlayers {β : Type} (N : Nat) (a0 : Int) (a1 : Int) (k : List Int → Option β) : Option β :=
spec_DummyPlayers_l0 N  N 0 a0 a1 (([] : List Int)) (fun e5_0 =>
k e5_0)
/-! loop.example/g03403/spec.IsProperGame -/
def spec_IsProperGame_l0b {β : Type} (N : Nat)  (v0 : Int) (v1 : Int) (v2 : Int) (rec_ : Int → Int → Int → Option β) (k0 : Bool → Option β) (k1 : Int → Int → Option β) : Option β :=
spec_IsSimpleGame N v1 v2 fun r3 =>
(cond r3
((gd ((decide (0 ≤ v1)))
((cond ((decide (v0 < (shlI .i64 1 v1))))
((gd ((decide (0 ≤ v0)))
((cond (((bits .and .i64 (shrI .i64 v2 v0) 1) == 1))
((gd ((decide (0 ≤ v1)))
((gd ((decide (0 ≤ (w64 ((w64 ((shlI .i64 1 v1) - 1)) - v0)))))
((cond (((bits .and .i64 (shrI .i64 v2 (w64 ((w64 ((shlI .i64 1 v1) - 1)) - v0))) 1) == 1))
(k0 false)
(rec_ ((w64 (v0 + 1))) v1 v2)))))))
(rec_ ((w64 (v0 + 1))) v1 v2)))))
(k1 v1 v2)))))
(k1 v1 v2))
def spec_IsProperGame_l0 {β : Type} (N : Nat)  : Nat → Int → Int → Int → (Bool → Option β) → (Int → Int → Option β) → Option β
  | 0, _, _, _, _, _ => none
  | F + 1, v0, v1, v2, k0, k1 => spec_IsProperGame_l0b N  v0 v1 v2 (fun v0 v1 v2 => spec_IsProperGame_l0 N  F v0 v1 v2 k0 k1) k0 k1
def spec_IsProperGame {β : Type} (N : Nat) (a0 : Int) (a1 : Int) (k : Bool → Option β) : Option β :=
spec_IsProperGame_l0 N  N 0 a0 a1 (fun e4_0 =>
k e4_0) (fun e5_0 e5_1 =>
spec_IsSimpleGame N e5_0 e5_1 fun r6 =>
k r6)
/-! loop.example/g03403/spec.l34Yes -/
def spec_l34Yes {β : Type} (N : Nat) (a0 : Bool) (a1 : ByteArray) (k : ByteArray → Option β) : Option β :=
(cond a0
(k a1)
(k ByteArray.empty))
/-! loop.example/g03403/spec.GameLine -/
def spec_GameLine {β : Type} (N : Nat) (a0 : Int) (a1 : Int) (k : ByteArray → Option β) : Option β :=
spec_IsSimpleGame N a0 a1 fun r3 =>
(cond (!r3)
(k ByteArray.empty)
(spec_MinimalPoints N a0 a1 fun r4 =>
spec_l34Numbers N r4 fun r5 =>
(gd ((decide (((strOf [103, 97, 109, 101, 32, 109, 105, 110, 105, 109, 97, 108, 32])).size + r5.size ≤ 9223372036854775807)))
((gd ((decide ((((strOf [103, 97, 109, 101, 32, 109, 105, 110, 105, 109, 97, 108, 32]) ++ r5)).size + ((strOf [32, 98, 97, 110, 122, 104, 97, 102, 32])).size ≤ 9223372036854775807)))
(spec_BanzhafNumbers N a0 a1 fun r6 =>
spec_l34Numbers N r6 fun r7 =>
(gd ((decide (((((strOf [103, 97, 109, 101, 32, 109, 105, 110, 105, 109, 97, 108, 32]) ++ r5) ++ (strOf [32, 98, 97, 110, 122, 104, 97, 102, 32]))).size + r7.size ≤ 9223372036854775807)))
((gd ((decide ((((((strOf [103, 97, 109, 101, 32, 109, 105, 110, 105, 109, 97, 108, 32]) ++ r5) ++ (strOf [32, 98, 97, 110, 122, 104, 97, 102, 32])) ++ r7)).size + ((strOf [32, 115, 104, 97, 112, 108, 101, 121, 32])).size ≤ 9223372036854775807)))
(spec_ShapleyNumbers N a0 a1 fun r8 =>
spec_l34Numbers N r8 fun r9 =>
(gd ((decide (((((((strOf [103, 97, 109, 101, 32, 109, 105, 110, 105, 109, 97, 108, 32]) ++ r5) ++ (strOf [32, 98, 97, 110, 122, 104, 97, 102, 32])) ++ r7) ++ (strOf [32, 115, 104, 97, 112, 108, 101, 121, 32]))).size + r9.size ≤ 9223372036854775807)))
((gd ((decide ((((((((strOf [103, 97, 109, 101, 32, 109, 105, 110, 105, 109, 97, 108, 32]) ++ r5) ++ (strOf [32, 98, 97, 110, 122, 104, 97, 102, 32])) ++ r7) ++ (strOf [32, 115, 104, 97, 112, 108, 101, 121, 32])) ++ r9)).size + ((strOf [32, 118, 101, 116, 111, 32])).size ≤ 9223372036854775807)))
(spec_VetoPlayers N a0 a1 fun r10 =>
spec_l34Numbers N r10 fun r11 =>
(gd ((decide (((((((((strOf [103, 97, 109, 101, 32, 109, 105, 110, 105, 109, 97, 108, 32]) ++ r5) ++ (strOf [32, 98, 97, 110, 122, 104, 97, 102, 32])) ++ r7) ++ (strOf [32, 115, 104, 97, 112, 108, 101, 121, 32])) ++ r9) ++ (strOf [32, 118, 101, 116, 111, 32]))).size + r11.size ≤ 9223372036854775807)))
((gd ((decide ((((((((((strOf [103, 97, 109, 101, 32, 109, 105, 110, 105, 109, 97, 108, 32]) ++ r5) ++ (strOf [32, 98, 97, 110, 122, 104, 97, 102, 32])) ++ r7) ++ (strOf [32, 115, 104, 97, 112, 108, 101, 121, 32])) ++ r9) ++ (strOf [32, 118, 101, 116, 111, 32])) ++ r11)).size + ((strOf [32, 100, 117, 109, 109, 105, 101, 115, 32])).size ≤ 9223372036854775807)))
(spec_DummyPlayers N a0 a1 fun r12 =>
spec_l34Numbers N r12 fun r13 =>
(gd ((decide (((((((((((strOf [103, 97, 109, 101, 32, 109, 105, 110, 105, 109, 97, 108, 32]) ++ r5) ++ (strOf [32, 98, 97, 110, 122, 104, 97, 102, 32])) ++ r7) ++ (strOf [32, 115, 104, 97, 112, 108, 101, 121, 32])) ++ r9) ++ (strOf [32, 118, 101, 116, 111, 32])) ++ r11) ++ (strOf [32, 100, 117, 109, 109, 105, 101, 115, 32]))).size + r13.size ≤ 9223372036854775807)))
(spec_IsProperGame N a0 a1 fun r14 =>
spec_l34Yes N r14 ((strOf [32, 112, 114, 111, 112, 101, 114])) fun r15 =>
(gd ((decide ((((((((((((strOf [103, 97, 109, 101, 32, 109, 105, 110, 105, 109, 97, 108, 32]) ++ r5) ++ (strOf [32, 98, 97, 110, 122, 104, 97, 102, 32])) ++ r7) ++ (strOf [32, 115, 104, 97, 112, 108, 101, 121, 32])) ++ r9) ++ (strOf [32, 118, 101, 116, 111, 32])) ++ r11) ++ (strOf [32, 100, 117, 109, 109, 105, 101, 115, 32])) ++ r13)).size + r15.size ≤ 9223372036854775807)))
(k ((((((((((((strOf [103, 97, 109, 101, 32, 109, 105, 110, 105, 109, 97, 108, 32]) ++ r5) ++ (strOf [32, 98, 97, 110, 122, 104, 97, 102, 32])) ++ r7) ++ (strOf [32, 115, 104, 97, 112, 108, 101, 121, 32])) ++ r9) ++ (strOf [32, 118, 101, 116, 111, 32])) ++ r11) ++ (strOf [32, 100, 117, 109, 109, 105, 101, 115, 32])) ++ r13) ++ r15))))))))))))))))))))))))
/-! loop.example/g03403/impl.isBits -/
def impl_isBits {β : Type} (N : Nat) (a0 : Int) (k : Bool → Option β) : Option β :=
(cond ((decide (a0 ≥ 0)))
(k ((decide (a0 ≤ 5))))
(k false))
/-! (loop.example/g03403/impl.Table).size -/
def impl_Table_size {β : Type} (N : Nat) (a0 : Int) (a1 : Int) (k : Int → Option β) : Option β :=
(gd ((decide (0 ≤ a0)))
(k ((shlI .i64 1 a0))))
/-! loop.example/g03403/impl.IsTable -/
def impl_IsTable {β : Type} (N : Nat) (a0 : Int) (a1 : Int) (k : Bool → Option β) : Option β :=
impl_isBits N a0 fun r3 =>
(cond r3
((cond ((decide (a1 ≥ 0)))
(impl_Table_size N a0 a1 fun r4 =>
(gd ((decide (0 ≤ r4)))
(k (((shrI .i64 a1 r4) == 0)))))
(k false)))
(k false))
/-! loop.example/g03403/impl.spread -/
def impl_spread {β : Type} (N : Nat) (a0 : Int) (a1 : Int) (a2 : Int) (k : Int → Option β) : Option β :=
(gd ((decide (0 ≤ a1)))
((gd ((decide (0 ≤ a1)))
(k ((bits .or .i64 (bits .or .i64 (shlI .i64 (w64 (a0 - (bits .and .i64 a0 (w64 ((shlI .i64 1 a1) - 1))))) 1) (shlI .i64 a2 a1)) (bits .and .i64 a0 (w64 ((shlI .i64 1 a1) - 1)))))))))
/-! (loop.example/g03403/impl.Table).at -/
def impl_Table_at {β : Type} (N : Nat) (a0 : Int) (a1 : Int) (a2 : Int) (k : Int → Option β) : Option β :=
(gd ((decide (0 ≤ a2)))
(k ((bits .and .i64 (shrI .i64 a1 a2) 1))))
/-! (loop.example/g03403/impl.Table).restrict$1 -/
def impl_Table_restrict_1 {β : Type} (N : Nat) (a0 : Int) (c0 : Int) (c1 : Int) (c2 : Int) (c3 : Int) (k : Bool → Option β) : Option β :=
impl_spread N a0 c2 c3 fun r2 =>
impl_Table_at N c0 c1 r2 fun r3 =>
k ((r3 == 1))
/-! (loop.example/g03403/impl.Table).shift$1 -/
def impl_Table_shift_1 {β : Type} (N : Nat) (a0 : Int) (c0 : Int) (c1 : Int) (c2 : Int) (k : Bool → Option β) : Option β :=
impl_Table_at N c0 c1 ((bits .xor .i64 a0 c2)) fun r2 =>
k ((r2 == 1))
/-! loop.example/g03403/impl.makeTable -/
def impl_makeTable_l0b {β : Type} (N : Nat) (a1 : (Int → (Bool → Option β) → Option β)) (v0 : Int) (v1 : Int) (v2 : Int) (v3 : Int) (v4 : Int) (v5 : Int) (rec_ : Int → Int → Int → Int → Int → Int → Option β) (k0 : Int → Int → Int → Int → Option β) : Option β :=
(cond ((decide (v1 < v0)))
(a1 v1 fun r4 =>
(cond r4
((gd ((decide (0 ≤ v1)))
(rec_ v0 ((w64 (v1 + 1))) v2 v3 v4 ((bits .or .i64 v5 (shlI .i64 1 v1))))))
(rec_ v0 ((w64 (v1 + 1))) v2 v3 v4 v5)))
(k0 v2 v3 v4 v5))
def impl_makeTable_l0 {β : Type} (N : Nat) (a1 : (Int → (Bool → Option β) → Option β)) : Nat → Int → Int → Int → Int → Int → Int → (Int → Int → Int → Int → Option β) → Option β
  | 0, _, _, _, _, _, _, _ => none
  | F + 1, v0, v1, v2, v3, v4, v5, k0 => impl_makeTable_l0b N a1 v0 v1 v2 v3 v4 v5 (fun v0 v1 v2 v3 v4 v5 => impl_makeTable_l0 N a1 F v0 v1 v2 v3 v4 v5 k0) k0
def impl_makeTable {β : Type} (N : Nat) (a0 : Int) (a1 : (Int → (Bool → Option β) → Option β)) (k : Int → Int → Option β) : Option β :=
(gd ((decide (0 ≤ a0)))
(impl_makeTable_l0 N a1 N ((shlI .i64 1 a0)) 0 0 0 a0 0 (fun e5_0 e5_1 e5_2 e5_3 =>
k e5_2 e5_3)))
/-! (loop.example/g03403/impl.Table).restrict -/
def impl_Table_restrict {β : Type} (N : Nat) (a0 : Int) (a1 : Int) (a2 : Int) (a3 : Int) (k : Int → Int → Option β) : Option β :=
impl_makeTable N ((w64 (a0 - 1))) (fun x0 k => impl_Table_restrict_1 N x0 a0 a1 a2 a3 k) fun r6 r7 =>
k r6 r7
/-! (loop.example/g03403/impl.Table).isMonotone -/
def impl_Table_isMonotone_l0b {β : Type} (N : Nat)  (v0 : Int) (v1 : Int) (v2 : Int) (v3 : Int) (rec_ : Int → Int → Int → Int → Option β) (k0 : Bool → Option β) (k1 : Option β) : Option β :=
(cond ((decide (v1 < v0)))
(impl_Table_restrict N v2 v3 v1 0 fun r3 r4 =>
impl_Table_restrict N v2 v3 v1 1 fun r5 r6 =>
(cond (((bits .andNot .i64 r4 r6) != 0))
(k0 false)
(rec_ v0 ((w64 (v1 + 1))) v2 v3)))
(k1 ))
def impl_Table_isMonotone_l0 {β : Type} (N : Nat)  : Nat → Int → Int → Int → Int → (Bool → Option β) → (Option β) → Option β
  | 0, _, _, _, _, _, _ => none
  | F + 1, v0, v1, v2, v3, k0, k1 => impl_Table_isMonotone_l0b N  v0 v1 v2 v3 (fun v0 v1 v2 v3 => impl_Table_isMonotone_l0 N  F v0 v1 v2 v3 k0 k1) k0 k1
def impl_Table_isMonotone {β : Type} (N : Nat) (a0 : Int) (a1 : Int) (k : Bool → Option β) : Option β :=
impl_Table_isMonotone_l0 N  N a0 0 a0 a1 (fun e7_0 =>
k e7_0) (k true)
/-! loop.example/g03403/impl.IsMonotone -/
def impl_IsMonotone {β : Type} (N : Nat) (a0 : Int) (a1 : Int) (k : Bool → Option β) : Option β :=
impl_IsTable N a0 a1 fun r3 =>
(cond r3
(impl_Table_isMonotone N a0 a1 fun r4 =>
k r4)
(k false))
/-! loop.example/g03403/impl.IsSimpleGame -/
def impl_IsSimpleGame {β : Type} (N : Nat) (a0 : Int) (a1 : Int) (k : Bool → Option β) : Option β :=
impl_IsMonotone N a0 a1 fun r3 =>
(cond r3
(impl_Table_at N a0 a1 0 fun r4 =>
(cond ((r4 == 0))
(impl_Table_size N a0 a1 fun r5 =>
impl_Table_at N a0 a1 ((w64 (r5 - 1))) fun r6 =>
k ((r6 == 1)))
(k false)))
(k false))
/-! (loop.example/g03403/impl.Table).changes -/
def impl_Table_changes {β : Type} (N : Nat) (a0 : Int) (a1 : Int) (a2 : Int) (a3 : Int) (k : Bool → Option β) : Option β :=
impl_Table_at N a0 a1 a2 fun r5 =>
impl_Table_at N a0 a1 ((bits .xor .i64 a2 a3)) fun r6 =>
k ((r5 != r6))
/-! (loop.example/g03403/impl.Table).edgePoints -/
def impl_Table_edgePoints_l2b {β : Type} (N : Nat)  (v0 : Int) (v1 : Int) (v2 : Int) (v3 : Bool) (v4 : Int) (v5 : Int) (v6 : Int) (v7 : Int) (v8 : Int) (v9 : Int) (v10 : List Int) (rec_ : Int → Int → Int → Bool → Int → Int → Int → Int → Int → Int → List Int → Option β) (k0 : Int → Int → Int → Bool → Int → Int → Int → Int → List Int → Option β) : Option β :=
(cond ((decide (v7 < v6)))
((cond v3
((gd ((decide (0 ≤ v7)))
((cond (((bits .and .i64 (shrI .i64 v2 v7) 1) != v1))
(rec_ v0 v1 v2 true v4 v5 v6 ((w64 (v7 + 1))) v8 v9 v10)
((gd ((decide (0 ≤ v7)))
(impl_Table_changes N v8 v9 v2 ((shlI .i64 1 v7)) fun r7 =>
rec_ v0 v1 v2 r7 v4 v5 v6 ((w64 (v7 + 1))) v8 v9 v10)))))))
(rec_ v0 v1 v2 false v4 v5 v6 ((w64 (v7 + 1))) v8 v9 v10)))
(k0 v0 v1 v2 v3 v4 v5 v8 v9 v10))
def impl_Table_edgePoints_l2 {β : Type} (N : Nat)  : Nat → Int → Int → Int → Bool → Int → Int → Int → Int → Int → Int → List Int → (Int → Int → Int → Bool → Int → Int → Int → Int → List Int → Option β) → Option β
  | 0, _, _, _, _, _, _, _, _, _, _, _, _ => none
  | F + 1, v0, v1, v2, v3, v4, v5, v6, v7, v8, v9, v10, k0 => impl_Table_edgePoints_l2b N  v0 v1 v2 v3 v4 v5 v6 v7 v8 v9 v10 (fun v0 v1 v2 v3 v4 v5 v6 v7 v8 v9 v10 => impl_Table_edgePoints_l2 N  F v0 v1 v2 v3 v4 v5 v6 v7 v8 v9 v10 k0) k0
def impl_Table_edgePoints_l0b {β : Type} (N : Nat)  (v0 : Int) (v1 : Int) (v2 : Int) (v3 : Int) (v4 : Int) (v5 : Int) (v6 : List Int) (rec_ : Int → Int → Int → Int → Int → Int → List Int → Option β) (k0 : List Int → Option β) : Option β :=
(cond ((decide (v3 < v2)))
(impl_Table_at N v4 v5 v3 fun r6 =>
impl_Table_edgePoints_l2 N  N v0 v1 v3 ((r6 == v0)) v2 v3 v4 0 v4 v5 v6 (fun e8_0 e8_1 e8_2 e8_3 e8_4 e8_5 e8_6 e8_7 e8_8 =>
(cond e8_3
((gd ((decide ((e8_8.length + ((([] : List Int) ++ [e8_2])).length) * 8 ≤ 140737488355328)))
(rec_ e8_0 e8_1 e8_4 ((w64 (e8_5 + 1))) e8_6 e8_7 ((e8_8 ++ (([] : List Int) ++ [e8_2]))))))
(rec_ e8_0 e8_1 e8_4 ((w64 (e8_5 + 1))) e8_6 e8_7 e8_8))))
(k0 v6))
def impl_Table_edgePoints_l0 {β : Type} (N : Nat)  : Nat → Int → Int → Int → Int → Int → Int → List Int → (List Int → Option β) → Option β
  | 0, _, _, _, _, _, _, _, _ => none
  | F + 1, v0, v1, v2, v3, v4, v5, v6, k0 => impl_Table_edgePoints_l0b N  v0 v1 v2 v3 v4 v5 v6 (fun v0 v1 v2 v3 v4 v5 v6 => impl_Table_edgePoints_l0 N  F v0 v1 v2 v3 v4 v5 v6 k0) k0
def impl_Table_edgePoints {β : Type} (N : Nat) (a0 : Int) (a1 : Int) (a2 : Int) (a3 : Int) (k : List Int → Option β) : Option β :=
impl_Table_size N a0 a1 fun r5 =>
impl_Table_edgePoints_l0 N  N a2 a3 r5 0 a0 a1 (([] : List Int)) (fun e9_0 =>
k e9_0)
/-! loop.example/g03403/impl.MinimalPoints -/
def impl_MinimalPoints {β : Type} (N : Nat) (a0 : Int) (a1 : Int) (k : List Int → Option β) : Option β :=
impl_IsTable N a0 a1 fun r3 =>
(cond (!r3)
(k (([] : List Int)))
(impl_Table_edgePoints N a0 a1 1 1 fun r4 =>
k r4))
/-! loop.example/g03403/impl.FormatInt -/
def impl_FormatInt {β : Type} (N : Nat) (a0 : Int) (k : ByteArray → Option β) : Option β :=
strconv_Itoa N a0 fun r2 =>
k r2
/-! loop.example/g03403/impl.listText -/
def impl_listText_l0b {β : Type} (N : Nat)  (v0 : List Int) (v1 : Int) (v2 : Int) (v3 : List ByteArray) (rec_ : List Int → Int → Int → List ByteArray → Option β) (k0 : List ByteArray → Option β) : Option β :=
(cond ((decide (v2 < v1)))
((gd ((decide (0 ≤ v2)))
((gd ((decide (v2 < (v0.length : Int))))
(impl_FormatInt N ((rd 0 v0 v2)) fun r2 =>
(gd ((decide (0 ≤ v2)))
((gd ((decide (v2 < (v3.length : Int))))
(rec_ v0 v1 ((w64 (v2 + 1))) ((wr v3 v2 r2)))))))))))
(k0 v3))
def impl_listText_l0 {β : Type} (N : Nat)  : Nat → List Int → Int → Int → List ByteArray → (List ByteArray → Option β) → Option β
  | 0, _, _, _, _, _ => none
  | F + 1, v0, v1, v2, v3, k0 => impl_listText_l0b N  v0 v1 v2 v3 (fun v0 v1 v2 v3 => impl_listText_l0 N  F v0 v1 v2 v3 k0) k0
def impl_listText {β : Type} (N : Nat) (a0 : List Int) (k : ByteArray → Option β) : Option β :=
(cond (((a0.length : Int) == 0))
(k ((strOf [110, 111, 110, 101])))
((gd ((decide (0 ≤ (a0.length : Int))))
((gd ((decide ((a0.length : Int) ≤ (a0.length : Int))))
((gd ((decide (16 * (a0.length : Int) ≤ 281474976710656)))
(impl_listText_l0 N  N a0 ((a0.length : Int)) 0 ((List.replicate (Int.toNat (a0.length : Int)) ByteArray.empty)) (fun e3_0 =>
strings_Join N e3_0 ((strOf [44])) fun r4 =>
k r4)))))))))
/-! math/bits.OnesCount64 -/
def math_bits_OnesCount64 {β : Type} (N : Nat) (a0 : Int) (k : Int → Option β) : Option β :=
k ((bits .and .i64 (w64 ((wu64 ((wu64 ((wu64 ((bits .and .u64 (wu64 ((shrI .u64 (wu64 ((bits .and .u64 (shrI .u64 (wu64 ((bits .and .u64 (shrI .u64 a0 1) 6148914691236517205) + (bits .and .u64 a0 6148914691236517205))) 2) 3689348814741910323) + (bits .and .u64 (wu64 ((bits .and .u64 (shrI .u64 a0 1) 6148914691236517205) + (bits .and .u64 a0 6148914691236517205))) 3689348814741910323))) 4) + (wu64 ((bits .and .u64 (shrI .u64 (wu64 ((bits .and .u64 (shrI .u64 a0 1) 6148914691236517205) + (bits .and .u64 a0 6148914691236517205))) 2) 3689348814741910323) + (bits .and .u64 (wu64 ((bits .and .u64 (shrI .u64 a0 1) 6148914691236517205) + (bits .and .u64 a0 6148914691236517205))) 3689348814741910323))))) 1085102592571150095) + (shrI .u64 (bits .and .u64 (wu64 ((shrI .u64 (wu64 ((bits .and .u64 (shrI .u64 (wu64 ((bits .and .u64 (shrI .u64 a0 1) 6148914691236517205) + (bits .and .u64 a0 6148914691236517205))) 2) 3689348814741910323) + (bits .and .u64 (wu64 ((bits .and .u64 (shrI .u64 a0 1) 6148914691236517205) + (bits .and .u64 a0 6148914691236517205))) 3689348814741910323))) 4) + (wu64 ((bits .and .u64 (shrI .u64 (wu64 ((bits .and .u64 (shrI .u64 a0 1) 6148914691236517205) + (bits .and .u64 a0 6148914691236517205))) 2) 3689348814741910323) + (bits .and .u64 (wu64 ((bits .and .u64 (shrI .u64 a0 1) 6148914691236517205) + (bits .and .u64 a0 6148914691236517205))) 3689348814741910323))))) 1085102592571150095) 8))) + (shrI .u64 (wu64 ((bits .and .u64 (wu64 ((shrI .u64 (wu64 ((bits .and .u64 (shrI .u64 (wu64 ((bits .and .u64 (shrI .u64 a0 1) 6148914691236517205) + (bits .and .u64 a0 6148914691236517205))) 2) 3689348814741910323) + (bits .and .u64 (wu64 ((bits .and .u64 (shrI .u64 a0 1) 6148914691236517205) + (bits .and .u64 a0 6148914691236517205))) 3689348814741910323))) 4) + (wu64 ((bits .and .u64 (shrI .u64 (wu64 ((bits .and .u64 (shrI .u64 a0 1) 6148914691236517205) + (bits .and .u64 a0 6148914691236517205))) 2) 3689348814741910323) + (bits .and .u64 (wu64 ((bits .and .u64 (shrI .u64 a0 1) 6148914691236517205) + (bits .and .u64 a0 6148914691236517205))) 3689348814741910323))))) 1085102592571150095) + (shrI .u64 (bits .and .u64 (wu64 ((shrI .u64 (wu64 ((bits .and .u64 (shrI .u64 (wu64 ((bits .and .u64 (shrI .u64 a0 1) 6148914691236517205) + (bits .and .u64 a0 6148914691236517205))) 2) 3689348814741910323) + (bits .and .u64 (wu64 ((bits .and .u64 (shrI .u64 a0 1) 6148914691236517205) + (bits .and .u64 a0 6148914691236517205))) 3689348814741910323))) 4) + (wu64 ((bits .and .u64 (shrI .u64 (wu64 ((bits .and .u64 (shrI .u64 a0 1) 6148914691236517205) + (bits .and .u64 a0 6148914691236517205))) 2) 3689348814741910323) + (bits .and .u64 (wu64 ((bits .and .u64 (shrI .u64 a0 1) 6148914691236517205) + (bits .and .u64 a0 6148914691236517205))) 3689348814741910323))))) 1085102592571150095) 8))) 16))) + (shrI .u64 (wu64 ((wu64 ((bits .and .u64 (wu64 ((shrI .u64 (wu64 ((bits .and .u64 (shrI .u64 (wu64 ((bits .and .u64 (shrI .u64 a0 1) 6148914691236517205) + (bits .and .u64 a0 6148914691236517205))) 2) 3689348814741910323) + (bits .and .u64 (wu64 ((bits .and .u64 (shrI .u64 a0 1) 6148914691236517205) + (bits .and .u64 a0 6148914691236517205))) 3689348814741910323))) 4) + (wu64 ((bits .and .u64 (shrI .u64 (wu64 ((bits .and .u64 (shrI .u64 a0 1) 6148914691236517205) + (bits .and .u64 a0 6148914691236517205))) 2) 3689348814741910323) + (bits .and .u64 (wu64 ((bits .and .u64 (shrI .u64 a0 1) 6148914691236517205) + (bits .and .u64 a0 6148914691236517205))) 3689348814741910323))))) 1085102592571150095) + (shrI .u64 (bits .and .u64 (wu64 ((shrI .u64 (wu64 ((bits .and .u64 (shrI .u64 (wu64 ((bits .and .u64 (shrI .u64 a0 1) 6148914691236517205) + (bits .and .u64 a0 6148914691236517205))) 2) 3689348814741910323) + (bits .and .u64 (wu64 ((bits .and .u64 (shrI .u64 a0 1) 6148914691236517205) + (bits .and .u64 a0 6148914691236517205))) 3689348814741910323))) 4) + (wu64 ((bits .and .u64 (shrI .u64 (wu64 ((bits .and .u64 (shrI .u64 a0 1) 6148914691236517205) + (bits .and .u64 a0 6148914691236517205))) 2) 3689348814741910323) + (bits .and .u64 (wu64 ((bits .and .u64 (shrI .u64 a0 1) 6148914691236517205) + (bits .and .u64 a0 6148914691236517205))) 3689348814741910323))))) 1085102592571150095) 8))) + (shrI .u64 (wu64 ((bits .and .u64 (wu64 ((shrI .u64 (wu64 ((bits .and .u64 (shrI .u64 (wu64 ((bits .and .u64 (shrI .u64 a0 1) 6148914691236517205) + (bits .and .u64 a0 6148914691236517205))) 2) 3689348814741910323) + (bits .and .u64 (wu64 ((bits .and .u64 (shrI .u64 a0 1) 6148914691236517205) + (bits .and .u64 a0 6148914691236517205))) 3689348814741910323))) 4) + (wu64 ((bits .and .u64 (shrI .u64 (wu64 ((bits .and .u64 (shrI .u64 a0 1) 6148914691236517205) + (bits .and .u64 a0 6148914691236517205))) 2) 3689348814741910323) + (bits .and .u64 (wu64 ((bits .and .u64 (shrI .u64 a0 1) 6148914691236517205) + (bits .and .u64 a0 6148914691236517205))) 3689348814741910323))))) 1085102592571150095) + (shrI .u64 (bits .and .u64 (wu64 ((shrI .u64 (wu64 ((bits .and .u64 (shrI .u64 (wu64 ((bits .and .u64 (shrI .u64 a0 1) 6148914691236517205) + (bits .and .u64 a0 6148914691236517205))) 2) 3689348814741910323) + (bits .and .u64 (wu64 ((bits .and .u64 (shrI .u64 a0 1) 6148914691236517205) + (bits .and .u64 a0 6148914691236517205))) 3689348814741910323))) 4) + (wu64 ((bits .and .u64 (shrI .u64 (wu64 ((bits .and .u64 (shrI .u64 a0 1) 6148914691236517205) + (bits .and .u64 a0 6148914691236517205))) 2) 3689348814741910323) + (bits .and .u64 (wu64 ((bits .and .u64 (shrI .u64 a0 1) 6148914691236517205) + (bits .and .u64 a0 6148914691236517205))) 3689348814741910323))))) 1085102592571150095) 8))) 16))) 32))))) 127))
/-! loop.example/g03403/impl.ones -/
def impl_ones {β : Type} (N : Nat) (a0 : Int) (k : Int → Option β) : Option β :=
math_bits_OnesCount64 N ((wu64 (a0))) fun r2 =>
k r2
/-! loop.example/g03403/impl.BanzhafNumbers$1 -/
def impl_BanzhafNumbers_1 {β : Type} (N : Nat) (a0 : Int) (k : Int → Option β) : Option β :=
k 1
/-! loop.example/g03403/impl.factorial -/
def impl_factorial_l0b {β : Type} (N : Nat)  (v0 : Int) (v1 : Int) (v2 : Int) (rec_ : Int → Int → Int → Option β) (k0 : Int → Option β) : Option β :=
(cond ((decide (v2 ≤ v0)))
(rec_ v0 ((w64 (v1 * v2))) ((w64 (v2 + 1))))
(k0 v1))
def impl_factorial_l0 {β : Type} (N : Nat)  : Nat → Int → Int → Int → (Int → Option β) → Option β
  | 0, _, _, _, _ => none
  | F + 1, v0, v1, v2, k0 => impl_factorial_l0b N  v0 v1 v2 (fun v0 v1 v2 => impl_factorial_l0 N  F v0 v1 v2 k0) k0
def impl_factorial {β : Type} (N : Nat) (a0 : Int) (k : Int → Option β) : Option β :=
impl_factorial_l0 N  N a0 1 2 (fun e2_0 =>
k e2_0)
/-! loop.example/g03403/impl.ShapleyNumbers$1 -/
def impl_ShapleyNumbers_1 {β : Type} (N : Nat) (a0 : Int) (c0 : Int) (c1 : Int) (k : Int → Option β) : Option β :=
impl_factorial N a0 fun r2 =>
impl_factorial N ((w64 ((w64 (c0 - 1)) - a0))) fun r3 =>
k ((w64 (r2 * r3)))
/-! (loop.example/g03403/impl.Table).powers -/
def impl_Table_powers_l2b {β : Type} (N : Nat) (a2 : (Int → (Int → Option β) → Option β)) (v0 : Int) (v1 : Int) (v2 : Int) (v3 : Int) (v4 : Int) (v5 : Int) (v6 : Int) (v7 : List Int) (rec_ : Int → Int → Int → Int → Int → Int → Int → List Int → Option β) (k0 : Int → Int → Int → Int → List Int → Option β) : Option β :=
(cond ((decide (v4 < v3)))
((gd ((decide (0 ≤ v0)))
((cond (((bits .and .i64 (shrI .i64 v4 v0) 1) == 0))
((gd ((decide (0 ≤ v0)))
(impl_Table_changes N v5 v6 v4 ((shlI .i64 1 v0)) fun r6 =>
(cond r6
((gd ((decide (0 ≤ v0)))
((gd ((decide (v0 < (v7.length : Int))))
(impl_ones N v4 fun r7 =>
a2 r7 fun r8 =>
(gd ((decide (0 ≤ v0)))
((gd ((decide (v0 < (v7.length : Int))))
(rec_ v0 v1 v2 v3 ((w64 (v4 + 1))) v5 v6 ((wr v7 v0 (w64 ((rd 0 v7 v0) + r8)))))))))))))
(rec_ v0 v1 v2 v3 ((w64 (v4 + 1))) v5 v6 v7)))))
(rec_ v0 v1 v2 v3 ((w64 (v4 + 1))) v5 v6 v7)))))
(k0 v1 v2 v5 v6 v7))
def impl_Table_powers_l2 {β : Type} (N : Nat) (a2 : (Int → (Int → Option β) → Option β)) : Nat → Int → Int → Int → Int → Int → Int → Int → List Int → (Int → Int → Int → Int → List Int → Option β) → Option β
  | 0, _, _, _, _, _, _, _, _, _ => none
  | F + 1, v0, v1, v2, v3, v4, v5, v6, v7, k0 => impl_Table_powers_l2b N a2 v0 v1 v2 v3 v4 v5 v6 v7 (fun v0 v1 v2 v3 v4 v5 v6 v7 => impl_Table_powers_l2 N a2 F v0 v1 v2 v3 v4 v5 v6 v7 k0) k0
def impl_Table_powers_l0b {β : Type} (N : Nat) (a2 : (Int → (Int → Option β) → Option β)) (v0 : Int) (v1 : Int) (v2 : Int) (v3 : Int) (v4 : List Int) (rec_ : Int → Int → Int → Int → List Int → Option β) (k0 : List Int → Option β) : Option β :=
(cond ((decide (v1 < v0)))
(impl_Table_size N v2 v3 fun r5 =>
impl_Table_powers_l2 N a2 N v1 v0 v1 r5 0 v2 v3 v4 (fun e9_0 e9_1 e9_2 e9_3 e9_4 =>
rec_ e9_0 ((w64 (e9_1 + 1))) e9_2 e9_3 e9_4))
(k0 v4))
def impl_Table_powers_l0 {β : Type} (N : Nat) (a2 : (Int → (Int → Option β) → Option β)) : Nat → Int → Int → Int → Int → List Int → (List Int → Option β) → Option β
  | 0, _, _, _, _, _, _ => none
  | F + 1, v0, v1, v2, v3, v4, k0 => impl_Table_powers_l0b N a2 v0 v1 v2 v3 v4 (fun v0 v1 v2 v3 v4 => impl_Table_powers_l0 N a2 F v0 v1 v2 v3 v4 k0) k0
def impl_Table_powers {β : Type} (N : Nat) (a0 : Int) (a1 : Int) (a2 : (Int → (Int → Option β) → Option β)) (k : List Int → Option β) : Option β :=
impl_IsSimpleGame N a0 a1 fun r4 =>
(cond (!r4)
(k (([] : List Int)))
((gd ((decide (0 ≤ a0)))
((gd ((decide (a0 ≤ a0)))
((gd ((decide (8 * a0 ≤ 281474976710656)))
(impl_Table_powers_l0 N a2 N ((((List.replicate (Int.toNat a0) (0 : Int))).length : Int)) 0 a0 a1 ((List.replicate (Int.toNat a0) (0 : Int))) (fun e10_0 =>
k e10_0)))))))))
/-! loop.example/g03403/impl.BanzhafNumbers -/
def impl_BanzhafNumbers {β : Type} (N : Nat) (a0 : Int) (a1 : Int) (k : List Int → Option β) : Option β :=
impl_Table_powers N a0 a1 (fun x0 k => impl_BanzhafNumbers_1 N x0 k) fun r3 =>
k r3
/-! loop.example/g03403/impl.ShapleyNumbers -/
def impl_ShapleyNumbers {β : Type} (N : Nat) (a0 : Int) (a1 : Int) (k : List Int → Option β) : Option β :=
impl_Table_powers N a0 a1 (fun x0 k => impl_ShapleyNumbers_1 N x0 a0 a1 k) fun r3 =>
k r3
/-! loop.example/g03403/impl.VetoPlayers -/
def impl_VetoPlayers_l0b {β : Type} (N : Nat)  (v0 : Int) (v1 : Int) (v2 : Int) (v3 : Int) (v4 : List Int) (rec_ : Int → Int → Int → Int → List Int → Option β) (k0 : List Int → Option β) : Option β :=
(cond ((decide (v1 < v0)))
(impl_Table_restrict N v2 v3 v1 0 fun r4 r5 =>
(cond ((r5 == 0))
((gd ((decide ((v4.length + ((([] : List Int) ++ [v1])).length) * 8 ≤ 140737488355328)))
(rec_ v0 ((w64 (v1 + 1))) v2 v3 ((v4 ++ (([] : List Int) ++ [v1]))))))
(rec_ v0 ((w64 (v1 + 1))) v2 v3 v4)))
(k0 v4))
def impl_VetoPlayers_l0 {β : Type} (N : Nat)  : Nat → Int → Int → Int → Int → List Int → (List Int → Option β) → Option β
  | 0, _, _, _, _, _, _ => none
  | F + 1, v0, v1, v2, v3, v4, k0 => impl_VetoPlayers_l0b N  v0 v1 v2 v3 v4 (fun v0 v1 v2 v3 v4 => impl_VetoPlayers_l0 N  F v0 v1 v2 v3 v4 k0) k0
def impl_VetoPlayers {β : Type} (N : Nat) (a0 : Int) (a1 : Int) (k : List Int → Option β) : Option β :=
impl_IsSimpleGame N a0 a1 fun r3 =>
(cond (!r3)
(k (([] : List Int)))
(impl_VetoPlayers_l0 N  N a0 0 a0 a1 (([] : List Int)) (fun e6_0 =>
k e6_0)))
/-! (loop.example/g03403/impl.Table).depends -/
def impl_Table_depends {β : Type} (N : Nat) (a0 : Int) (a1 : Int) (a2 : Int) (k : Bool → Option β) : Option β :=
impl_Table_restrict N a0 a1 a2 0 fun r4 r5 =>
impl_Table_restrict N a0 a1 a2 1 fun r6 r7 =>
k ((!((r4 == r6) && (r5 == r7))))
/-! loop.example/g03403/impl.DummyPlayers -/
def impl_DummyPlayers_l0b {β : Type} (N : Nat)  (v0 : Int) (v1 : Int) (v2 : Int) (v3 : Int) (v4 : List Int) (rec_ : Int → Int → Int → Int → List Int → Option β) (k0 : List Int → Option β) : Option β :=
(cond ((decide (v1 < v0)))
(impl_Table_depends N v2 v3 v1 fun r4 =>
(cond (!r4)
((gd ((decide ((v4.length + ((([] : List Int) ++ [v1])).length) * 8 ≤ 140737488355328)))
(rec_ v0 ((w64 (v1 + 1))) v2 v3 ((v4 ++ (([] : List Int) ++ [v1]))))))
(rec_ v0 ((w64 (v1 + 1))) v2 v3 v4)))
(k0 v4))
def impl_DummyPlayers_l0 {β : Type} (N : Nat)  : Nat → Int → Int → Int → Int → List Int → (List Int → Option β) → Option β
  | 0, _, _, _, _, _, _ => none
  | F + 1, v0, v1, v2, v3, v4, k0 => impl_DummyPlayers_l0b N  v0 v1 v2 v3 v4 (fun v0 v1 v2 v3 v4 => impl_DummyPlayers_l0 N  F v0 v1 v2 v3 v4 k0) k0
def impl_DummyPlayers {β : Type} (N : Nat) (a0 : Int) (a1 : Int) (k : List Int → Option β) : Option β :=
impl_IsSimpleGame N a0 a1 fun r3 =>
(cond (!r3)
(k (([] : List Int)))
(impl_DummyPlayers_l0 N  N a0 0 a0 a1 (([] : List Int)) (fun e5_0 =>
k e5_0)))
/-! (loop.example/g03403/impl.Table).shift -/
def impl_Table_shift {β : Type} (N : Nat) (a0 : Int) (a1 : Int) (a2 : Int) (k : Int → Int → Option β) : Option β :=
impl_makeTable N a0 (fun x0 k => impl_Table_shift_1 N x0 a0 a1 a2 k) fun r5 r6 =>
k r5 r6
/-! loop.example/g03403/impl.IsProperGame -/
def impl_IsProperGame {β : Type} (N : Nat) (a0 : Int) (a1 : Int) (k : Bool → Option β) : Option β :=
impl_IsSimpleGame N a0 a1 fun r3 =>
(cond (!r3)
(k false)
(impl_Table_size N a0 a1 fun r4 =>
impl_Table_shift N a0 a1 ((w64 (r4 - 1))) fun r5 r6 =>
k (((bits .and .i64 a1 r6) == 0))))
/-! (*loop.example/g03403/impl.line).put -/
def impl_line_put_g0 {β : Type} (N : Nat) (a0 : List ByteArray) (a1 : List ByteArray) (k0 : List ByteArray → List ByteArray → Option β) : Option β :=
(gd ((decide ((a1.length + a0.length) * 16 ≤ 140737488355328)))
(k0 a0 ((a1 ++ a0))))
/-! (*loop.example/g03403/impl.line).putIf -/
def impl_line_putIf_g0 {β : Type} (N : Nat) (a0 : Bool) (a1 : ByteArray) (a2 : List ByteArray) (k0 : List ByteArray → Option β) (k1 : List ByteArray → Option β) : Option β :=
(cond a0
(impl_line_put_g0 N ((([] : List ByteArray) ++ [a1])) a2 (fun r17_0 r17_1 =>
k0 r17_1))
(k1 a2))
/-! (*loop.example/g03403/impl.line).text -/
def impl_line_text_g0 {β : Type} (N : Nat) (a0 : List ByteArray) (k0 : ByteArray → List ByteArray → Option β) : Option β :=
strings_Join N a0 ((strOf [32])) fun r19 =>
k0 r19 a0
/-! loop.example/g03403/impl.GameLine -/
def impl_GameLine {β : Type} (N : Nat) (a0 : Int) (a1 : Int) (k : ByteArray → Option β) : Option β :=
impl_IsSimpleGame N a0 a1 fun r3 =>
(cond (!r3)
(k ByteArray.empty)
(impl_MinimalPoints N a0 a1 fun r4 =>
impl_listText N r4 fun r5 =>
impl_BanzhafNumbers N a0 a1 fun r6 =>
impl_listText N r6 fun r7 =>
impl_ShapleyNumbers N a0 a1 fun r8 =>
impl_listText N r8 fun r9 =>
impl_line_put_g0 N ((((((((([] : List ByteArray) ++ [(strOf [103, 97, 109, 101])]) ++ [(strOf [109, 105, 110, 105, 109, 97, 108])]) ++ [r5]) ++ [(strOf [98, 97, 110, 122, 104, 97, 102])]) ++ [r7]) ++ [(strOf [115, 104, 97, 112, 108, 101, 121])]) ++ [r9])) (([] : List ByteArray)) (fun r10_0 r10_1 =>
impl_VetoPlayers N a0 a1 fun r11 =>
impl_listText N r11 fun r12 =>
impl_DummyPlayers N a0 a1 fun r13 =>
impl_listText N r13 fun r14 =>
impl_line_put_g0 N (((((([] : List ByteArray) ++ [(strOf [118, 101, 116, 111])]) ++ [r12]) ++ [(strOf [100, 117, 109, 109, 105, 101, 115])]) ++ [r14])) r10_1 (fun r15_0 r15_1 =>
impl_IsProperGame N a0 a1 fun r16 =>
impl_line_putIf_g0 N r16 ((strOf [112, 114, 111, 112, 101, 114])) r15_1 (fun r17_0 =>
impl_line_text_g0 N r17_0 (fun r18_0 r18_1 =>
k r18_0)) (fun r19_0 =>
impl_line_text_g0 N r19_0 (fun r20_0 r20_1 =>
k r20_0))))))
/-! loop.example/g03403/laws.FnExactGameLine -/
def laws_FnExactGameLine {β : Type} (N : Nat) (a0 : Int) (a1 : Int) (k : Bool → Option β) : Option β :=
laws_toTable N a0 a1 fun r3 r4 =>
spec_GameLine N r3 r4 fun r5 =>
laws_toTable N a0 a1 fun r6 r7 =>
impl_GameLine N r6 r7 fun r8 =>
(cond ((!(r8.toList == r5.toList)))
(k false)
(k true))
end Go.Proofs.YtfdggelojmofmaaDoor
