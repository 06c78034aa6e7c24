/- The texts of the functions that the claims reach: plain Lean, no program. -/
import Derived.Test.YtfdggelojmofmaaDoorRvLib
namespace Go.Proofs.YtfdggelojmofmaaDoor
open Go.Rv
set_option linter.unusedVariables false
set_option maxRecDepth 100000
/-! loop.example/g03403/laws.toTable -/
def zj0 {β : Type} (N : Nat) (a0 : Int) (a1 : Int) (k : Int → Int → Option β) : Option β :=
k a0 a1
/-! loop.example/g03403/spec.l1In -/
def zj1 {β : Type} (N : Nat) (a0 : Int) (a1 : Int) (a2 : Int) (k : Bool → Option β) : Option β :=
(cond ((decide (a0 ≥ a1)))
(k ((decide (a0 ≤ a2))))
(k false))
/-! loop.example/g03403/spec.IsTable -/
def zj2 {β : Type} (N : Nat) (a0 : Int) (a1 : Int) (k : Bool → Option β) : Option β :=
zj1 N a0 0 5 fun r3 =>
(cond r3
((gd ((decide (0 ≤ a0)))
((gd ((decide (0 ≤ (shlI .u64 1 a0))))
(zj1 N a1 0 ((w64 ((shlI .i64 1 (shlI .u64 1 a0)) - 1))) fun r4 =>
k r4)))))
(k false))
/-! loop.example/g03403/spec.MatrixOf -/
def zj3 {β : Type} (N : Nat)  (v0 : Int) (v1 : Int) (v2 : Int) (v3 : Int) (v4 : Int) (v5 : Int) (v6 : List Int) (rec_ : Int → Int → Int → Int → Int → Int → List Int → Option β) (k0 : Int → Int → Int → Int → Int → List Int → Option β) : Option β :=
(gd ((decide (0 ≤ (w64 (v4 - v0)))))
((cond ((decide (v3 < (shlI .i64 1 (w64 (v4 - v0))))))
((gd ((decide (0 ≤ v0)))
((gd ((decide (0 ≤ (bits .or .i64 v1 (shlI .i64 v3 v0)))))
((gd ((decide (0 ≤ v3)))
(rec_ v0 v1 ((bits .or .i64 v2 (shlI .i64 (bits .and .i64 (shrI .i64 v5 (bits .or .i64 v1 (shlI .i64 v3 v0))) 1) v3))) ((w64 (v3 + 1))) v4 v5 v6)))))))
(k0 v0 v1 v2 v4 v5 v6))))
def zj4 {β : Type} (N : Nat)  : Nat → Int → Int → Int → Int → Int → Int → List Int → (Int → Int → Int → Int → Int → List Int → Option β) → Option β
  | 0, _, _, _, _, _, _, _, _ => none
  | F + 1, v0, v1, v2, v3, v4, v5, v6, k0 => zj3 N  v0 v1 v2 v3 v4 v5 v6 (fun v0 v1 v2 v3 v4 v5 v6 => zj4 N  F v0 v1 v2 v3 v4 v5 v6 k0) k0
def zj5 {β : Type} (N : Nat)  (v0 : Int) (v1 : Int) (v2 : Int) (v3 : Int) (v4 : List Int) (rec_ : Int → Int → Int → Int → List Int → Option β) (k0 : List Int → Option β) : Option β :=
(gd ((decide (0 ≤ v0)))
((cond ((decide (v1 < (shlI .i64 1 v0))))
(zj4 N  N v0 v1 0 0 v2 v3 v4 (fun e7_0 e7_1 e7_2 e7_3 e7_4 e7_5 =>
(gd ((decide ((e7_5.length + ((([] : List Int) ++ [e7_2])).length) * 8 ≤ 140737488355328)))
(rec_ e7_0 ((w64 (e7_1 + 1))) e7_3 e7_4 ((e7_5 ++ (([] : List Int) ++ [e7_2])))))))
(k0 v4))))
def zj6 {β : Type} (N : Nat)  : Nat → Int → Int → Int → Int → List Int → (List Int → Option β) → Option β
  | 0, _, _, _, _, _, _ => none
  | F + 1, v0, v1, v2, v3, v4, k0 => zj5 N  v0 v1 v2 v3 v4 (fun v0 v1 v2 v3 v4 => zj6 N  F v0 v1 v2 v3 v4 k0) k0
def zj7 {β : Type} (N : Nat) (a0 : Int) (a1 : Int) (a2 : Int) (k : List Int → Bool → Option β) : Option β :=
zj2 N a0 a1 fun r5 =>
(cond (!r5)
(k (([] : List Int)) false)
(zj1 N a2 0 a0 fun r6 =>
(cond (!r6)
(k (([] : List Int)) false)
(zj6 N  N a2 0 a0 a1 (([] : List Int)) (fun e8_0 =>
k e8_0 true)))))
/-! loop.example/g03403/spec.IsFooling -/
def zj8 {β : Type} (N : Nat)  (v0 : Int) (v1 : List Int) (v2 : Int) (v3 : Int) (v4 : Int) (v5 : Int) (v6 : Int) (rec_ : Int → List Int → Int → Int → Int → Int → Int → Option β) (k0 : Bool → Option β) (k1 : Int → List Int → Int → Int → Int → Int → Option β) : Option β :=
(cond ((decide (v4 < v3)))
((gd ((decide (0 ≤ v3)))
((gd ((decide (v3 < (v1.length : Int))))
((gd ((decide (0 ≤ v4)))
((gd ((decide (v4 < (v1.length : Int))))
((gd ((decide (0 ≤ v4)))
((gd ((decide (v4 < (v1.length : Int))))
((gd ((decide (0 ≤ v4)))
((gd ((decide (v4 < (v1.length : Int))))
((gd ((decide (0 ≤ v3)))
((gd ((decide (v3 < (v1.length : Int))))
((gd ((decide (0 ≤ v3)))
((gd ((decide (v3 < (v1.length : Int))))
((gd ((decide (0 ≤ (w64 ((w64 ((bits .and .i64 (rd 0 v1 v3) v2) + (rd 0 v1 v4))) - (bits .and .i64 (rd 0 v1 v4) v2))))))
((cond (((bits .and .i64 (shrI .i64 v6 (w64 ((w64 ((bits .and .i64 (rd 0 v1 v3) v2) + (rd 0 v1 v4))) - (bits .and .i64 (rd 0 v1 v4) v2)))) 1) == v0))
((gd ((decide (0 ≤ (w64 ((w64 ((bits .and .i64 (rd 0 v1 v4) v2) + (rd 0 v1 v3))) - (bits .and .i64 (rd 0 v1 v3) v2))))))
((cond (((bits .and .i64 (shrI .i64 v6 (w64 ((w64 ((bits .and .i64 (rd 0 v1 v4) v2) + (rd 0 v1 v3))) - (bits .and .i64 (rd 0 v1 v3) v2)))) 1) == v0))
(k0 false)
(rec_ v0 v1 v2 v3 ((w64 (v4 + 1))) v5 v6)))))
(rec_ v0 v1 v2 v3 ((w64 (v4 + 1))) v5 v6)))))))))))))))))))))))))))))
(k1 v0 v1 v2 v3 v5 v6))
def zj9 {β : Type} (N : Nat)  : Nat → Int → List Int → Int → Int → Int → Int → Int → (Bool → Option β) → (Int → List Int → Int → Int → Int → Int → Option β) → Option β
  | 0, _, _, _, _, _, _, _, _, _ => none
  | F + 1, v0, v1, v2, v3, v4, v5, v6, k0, k1 => zj8 N  v0 v1 v2 v3 v4 v5 v6 (fun v0 v1 v2 v3 v4 v5 v6 => zj9 N  F v0 v1 v2 v3 v4 v5 v6 k0 k1) k0 k1
def zj10 {β : Type} (N : Nat)  (v0 : Int) (v1 : List Int) (v2 : Int) (v3 : Int) (v4 : Int) (v5 : Int) (rec_ : Int → List Int → Int → Int → Int → Int → Option β) (k0 : Bool → Option β) (k1 : Option β) : Option β :=
(cond ((decide (v3 < (v1.length : Int))))
((gd ((decide (0 ≤ v3)))
((gd ((decide (v3 < (v1.length : Int))))
((gd ((decide (0 ≤ v4)))
(zj1 N ((rd 0 v1 v3)) 0 ((w64 ((shlI .i64 1 v4) - 1))) fun r9 =>
(cond (!r9)
(k0 false)
((cond ((decide (v3 > 0)))
((gd ((decide (0 ≤ v3)))
((gd ((decide (v3 < (v1.length : Int))))
((gd ((decide (0 ≤ (w64 (v3 - 1)))))
((gd ((decide ((w64 (v3 - 1)) < (v1.length : Int))))
((cond ((decide ((rd 0 v1 v3) ≤ (rd 0 v1 (w64 (v3 - 1))))))
(k0 false)
((gd ((decide (0 ≤ v3)))
((gd ((decide (v3 < (v1.length : Int))))
((gd ((decide (0 ≤ (rd 0 v1 v3))))
((cond (((bits .and .i64 (shrI .i64 v5 (rd 0 v1 v3)) 1) != v0))
(k0 false)
(zj9 N  N v0 v1 v2 v3 0 v4 v5 (fun e10_0 =>
k0 e10_0) (fun e11_0 e11_1 e11_2 e11_3 e11_4 e11_5 =>
rec_ e11_0 e11_1 e11_2 ((w64 (e11_3 + 1))) e11_4 e11_5))))))))))))))))))))
((gd ((decide (0 ≤ v3)))
((gd ((decide (v3 < (v1.length : Int))))
((gd ((decide (0 ≤ (rd 0 v1 v3))))
((cond (((bits .and .i64 (shrI .i64 v5 (rd 0 v1 v3)) 1) != v0))
(k0 false)
(zj9 N  N v0 v1 v2 v3 0 v4 v5 (fun e12_0 =>
k0 e12_0) (fun e13_0 e13_1 e13_2 e13_3 e13_4 e13_5 =>
rec_ e13_0 e13_1 e13_2 ((w64 (e13_3 + 1))) e13_4 e13_5))))))))))))))))))))
(k1 ))
def zj11 {β : Type} (N : Nat)  : Nat → Int → List Int → Int → Int → Int → Int → (Bool → Option β) → (Option β) → Option β
  | 0, _, _, _, _, _, _, _, _ => none
  | F + 1, v0, v1, v2, v3, v4, v5, k0, k1 => zj10 N  v0 v1 v2 v3 v4 v5 (fun v0 v1 v2 v3 v4 v5 => zj11 N  F v0 v1 v2 v3 v4 v5 k0 k1) k0 k1
def zj12 {β : Type} (N : Nat) (a0 : Int) (a1 : Int) (a2 : Int) (a3 : Int) (a4 : List Int) (k : Bool → Option β) : Option β :=
zj2 N a0 a1 fun r6 =>
(cond (!r6)
(k false)
(zj1 N a2 0 a0 fun r7 =>
(cond (!r7)
(k false)
(zj1 N a3 0 1 fun r8 =>
(cond (!r8)
(k false)
((gd ((decide (0 ≤ a2)))
(zj11 N  N a3 a4 ((w64 ((shlI .i64 1 a2) - 1))) 0 a0 a1 (fun e14_0 =>
k e14_0) (k true)))))))))
/-! loop.example/g03403/spec.l20Fooling -/
def zj13 {β : Type} (N : Nat) (self : Int → Int → Int → Int → List Int → Int → (List Int → Option β) → Option β)  (v0 : Int) (v1 : Int) (v2 : List Int) (v3 : List Int) (v4 : Int) (v5 : Int) (v6 : Int) (rec_ : Int → Int → List Int → List Int → Int → Int → Int → Option β) (k0 : List Int → Option β) : Option β :=
(gd ((decide (0 ≤ v5)))
((cond ((decide (v4 < (shlI .i64 1 v5))))
((gd ((decide (((([] : List Int)).length + v2.length) * 8 ≤ 140737488355328)))
((gd ((decide ((((([] : List Int) ++ v2)).length + ((([] : List Int) ++ [v4])).length) * 8 ≤ 140737488355328)))
(zj12 N v5 v6 v0 v1 (((([] : List Int) ++ v2) ++ (([] : List Int) ++ [v4]))) fun r7 =>
(cond (!r7)
(rec_ v0 v1 v2 v3 ((w64 (v4 + 1))) v5 v6)
(self v5 v6 v0 v1 (((([] : List Int) ++ v2) ++ (([] : List Int) ++ [v4]))) ((w64 (v4 + 1))) fun r8 =>
(cond ((decide ((r8.length : Int) > (v3.length : Int))))
(rec_ v0 v1 v2 r8 ((w64 (v4 + 1))) v5 v6)
(rec_ v0 v1 v2 v3 ((w64 (v4 + 1))) v5 v6)))))))))
(k0 v3))))
def zj14 {β : Type} (N : Nat) (self : Int → Int → Int → Int → List Int → Int → (List Int → Option β) → Option β)  : Nat → Int → Int → List Int → List Int → Int → Int → Int → (List Int → Option β) → Option β
  | 0, _, _, _, _, _, _, _, _ => none
  | F + 1, v0, v1, v2, v3, v4, v5, v6, k0 => zj13 N self  v0 v1 v2 v3 v4 v5 v6 (fun v0 v1 v2 v3 v4 v5 v6 => zj14 N self  F v0 v1 v2 v3 v4 v5 v6 k0) k0
def zj15 {β : Type} (N : Nat) (self : Int → Int → Int → Int → List Int → Int → (List Int → Option β) → Option β) (a0 : Int) (a1 : Int) (a2 : Int) (a3 : Int) (a4 : List Int) (a5 : Int) (k : List Int → Option β) : Option β :=
zj14 N self  N a2 a3 a4 a4 a5 a0 a1 (fun e9_0 =>
k e9_0)
def zj16 {β : Type} (N : Nat) : Nat → Int → Int → Int → Int → List Int → Int → (List Int → Option β) → Option β
  | 0, _, _, _, _, _, _, _ => none
  | F + 1, a0, a1, a2, a3, a4, a5, k => zj15 N (zj16 N F) a0 a1 a2 a3 a4 a5 k
def zj17 {β : Type} (N : Nat) (a0 : Int) (a1 : Int) (a2 : Int) (a3 : Int) (a4 : List Int) (a5 : Int) (k : List Int → Option β) : Option β := zj16 N N a0 a1 a2 a3 a4 a5 k
/-! loop.example/g03403/spec.LargestFooling -/
def zj18 {β : Type} (N : Nat) (a0 : Int) (a1 : Int) (a2 : Int) (a3 : Int) (k : List Int → Bool → Option β) : Option β :=
zj2 N a0 a1 fun r6 =>
(cond (!r6)
(k (([] : List Int)) false)
((cond ((decide (a0 > 4)))
(k (([] : List Int)) false)
(zj1 N a2 0 a0 fun r7 =>
(cond (!r7)
(k (([] : List Int)) false)
(zj1 N a3 0 1 fun r8 =>
(cond (!r8)
(k (([] : List Int)) false)
(zj17 N a0 a1 a2 a3 (([] : List Int)) 0 fun r9 =>
k r9 true))))))))
/-! loop.example/g03403/spec.FormatInt -/
def zj19 {β : Type} (N : Nat)  (v0 : Int) (v1 : ByteArray) (v2 : Bool) (rec_ : Int → ByteArray → Bool → Option β) (k0 : ByteArray → Bool → Option β) : Option β :=
(cond ((v0 != 0))
((cond ((decide ((remI v0 10) < 0)))
((gd ((decide (((strOf ((([] : List Int) ++ [(w8 ((w64 (48 + (w64 (0 - (remI v0 10)))))))])))).size + v1.size ≤ 9223372036854775807)))
(rec_ ((quoI .i64 v0 10)) (((strOf ((([] : List Int) ++ [(w8 ((w64 (48 + (w64 (0 - (remI v0 10)))))))]))) ++ v1)) v2)))
((gd ((decide (((strOf ((([] : List Int) ++ [(w8 ((w64 (48 + (remI v0 10)))))])))).size + v1.size ≤ 9223372036854775807)))
(rec_ ((quoI .i64 v0 10)) (((strOf ((([] : List Int) ++ [(w8 ((w64 (48 + (remI v0 10)))))]))) ++ v1)) v2)))))
(k0 v1 v2))
def zj20 {β : Type} (N : Nat)  : Nat → Int → ByteArray → Bool → (ByteArray → Bool → Option β) → Option β
  | 0, _, _, _, _ => none
  | F + 1, v0, v1, v2, k0 => zj19 N  v0 v1 v2 (fun v0 v1 v2 => zj20 N  F v0 v1 v2 k0) k0
def zj21 {β : Type} (N : Nat) (a0 : Int) (k : ByteArray → Option β) : Option β :=
(cond ((a0 == 0))
(k ((strOf [48])))
(zj20 N  N a0 ByteArray.empty ((decide (a0 < 0))) (fun e2_0 e2_1 =>
(cond e2_1
((gd ((decide (((strOf [45])).size + e2_0.size ≤ 9223372036854775807)))
(k (((strOf [45]) ++ e2_0)))))
(k e2_0)))))
/-! loop.example/g03403/spec.l34Numbers -/
def zj22 {β : Type} (N : Nat)  (v0 : List Int) (v1 : ByteArray) (v2 : Int) (rec_ : List Int → ByteArray → Int → Option β) (k0 : ByteArray → Option β) : Option β :=
(cond ((decide (v2 < (v0.length : Int))))
((cond ((decide (v2 > 0)))
((gd ((decide (v1.size + ((strOf [44])).size ≤ 9223372036854775807)))
((gd ((decide (0 ≤ v2)))
((gd ((decide (v2 < (v0.length : Int))))
(zj21 N ((rd 0 v0 v2)) fun r2 =>
(gd ((decide (((v1 ++ (strOf [44]))).size + r2.size ≤ 9223372036854775807)))
(rec_ v0 (((v1 ++ (strOf [44])) ++ r2)) ((w64 (v2 + 1))))))))))))
((gd ((decide (0 ≤ v2)))
((gd ((decide (v2 < (v0.length : Int))))
(zj21 N ((rd 0 v0 v2)) fun r3 =>
(gd ((decide (v1.size + r3.size ≤ 9223372036854775807)))
(rec_ v0 ((v1 ++ r3)) ((w64 (v2 + 1))))))))))))
(k0 v1))
def zj23 {β : Type} (N : Nat)  : Nat → List Int → ByteArray → Int → (ByteArray → Option β) → Option β
  | 0, _, _, _, _ => none
  | F + 1, v0, v1, v2, k0 => zj22 N  v0 v1 v2 (fun v0 v1 v2 => zj23 N  F v0 v1 v2 k0) k0
def zj24 {β : Type} (N : Nat) (a0 : List Int) (k : ByteArray → Option β) : Option β :=
zj23 N  N a0 ByteArray.empty 0 (fun e4_0 =>
(cond ((e4_0.toList == ByteArray.empty.toList))
(k ((strOf [110, 111, 110, 101])))
(k e4_0)))
/-! loop.example/g03403/spec.RankMod2 -/
def zj25 {β : Type} (N : Nat)  (v0 : List Int) (v1 : Int) (v2 : Int) (v3 : Int) (v4 : List Int) (rec_ : List Int → Int → Int → Int → List Int → Option β) (k0 : List Int → Int → Int → List Int → Option β) : Option β :=
(cond ((decide (v3 < (v4.length : Int))))
((gd ((decide (0 ≤ v3)))
((gd ((decide (v3 < (v4.length : Int))))
(rec_ v0 v1 ((mnI v2 (bits .xor .i64 v2 (rd 0 v4 v3)))) ((w64 (v3 + 1))) v4)))))
(k0 v0 v1 v2 v4))
def zj26 {β : Type} (N : Nat)  : Nat → List Int → Int → Int → Int → List Int → (List Int → Int → Int → List Int → Option β) → Option β
  | 0, _, _, _, _, _, _ => none
  | F + 1, v0, v1, v2, v3, v4, k0 => zj25 N  v0 v1 v2 v3 v4 (fun v0 v1 v2 v3 v4 => zj26 N  F v0 v1 v2 v3 v4 k0) k0
def zj27 {β : Type} (N : Nat)  (v0 : List Int) (v1 : Int) (v2 : List Int) (rec_ : List Int → Int → List Int → Option β) (k0 : Int → Option β) (k1 : List Int → Option β) : Option β :=
(cond ((decide (v1 < (v0.length : Int))))
((gd ((decide (0 ≤ v1)))
((gd ((decide (v1 < (v0.length : Int))))
(zj1 N ((rd 0 v0 v1)) 0 4294967295 fun r2 =>
(cond (!r2)
(k0 (-1))
((cond ((decide (v1 > 31)))
(k0 (-1))
((gd ((decide (0 ≤ v1)))
((gd ((decide (v1 < (v0.length : Int))))
(zj26 N  N v0 v1 ((rd 0 v0 v1)) 0 v2 (fun e3_0 e3_1 e3_2 e3_3 =>
(cond ((decide (e3_2 > 0)))
((gd ((decide ((e3_3.length + ((([] : List Int) ++ [e3_2])).length) * 8 ≤ 140737488355328)))
(rec_ e3_0 ((w64 (e3_1 + 1))) ((e3_3 ++ (([] : List Int) ++ [e3_2]))))))
(rec_ e3_0 ((w64 (e3_1 + 1))) e3_3))))))))))))))))
(k1 v2))
def zj28 {β : Type} (N : Nat)  : Nat → List Int → Int → List Int → (Int → Option β) → (List Int → Option β) → Option β
  | 0, _, _, _, _, _ => none
  | F + 1, v0, v1, v2, k0, k1 => zj27 N  v0 v1 v2 (fun v0 v1 v2 => zj28 N  F v0 v1 v2 k0 k1) k0 k1
def zj29 {β : Type} (N : Nat) (a0 : List Int) (k : Int → Option β) : Option β :=
zj28 N  N a0 0 (([] : List Int)) (fun e4_0 =>
k e4_0) (fun e5_0 =>
k ((e5_0.length : Int)))
/-! loop.example/g03403/spec.DifferentRows -/
def zj30 {β : Type} (N : Nat)  (v0 : List Int) (v1 : Int) (v2 : Int) (v3 : Bool) (v4 : Int) (rec_ : List Int → Int → Int → Bool → Int → Option β) (k0 : List Int → Int → Int → Bool → Option β) : Option β :=
(cond ((decide (v4 < v2)))
((cond v3
((gd ((decide (0 ≤ v4)))
((gd ((decide (v4 < (v0.length : Int))))
((gd ((decide (0 ≤ v2)))
((gd ((decide (v2 < (v0.length : Int))))
(rec_ v0 v1 v2 (((rd 0 v0 v4) != (rd 0 v0 v2))) ((w64 (v4 + 1))))))))))))
(rec_ v0 v1 v2 false ((w64 (v4 + 1))))))
(k0 v0 v1 v2 v3))
def zj31 {β : Type} (N : Nat)  : Nat → List Int → Int → Int → Bool → Int → (List Int → Int → Int → Bool → Option β) → Option β
  | 0, _, _, _, _, _, _ => none
  | F + 1, v0, v1, v2, v3, v4, k0 => zj30 N  v0 v1 v2 v3 v4 (fun v0 v1 v2 v3 v4 => zj31 N  F v0 v1 v2 v3 v4 k0) k0
def zj32 {β : Type} (N : Nat)  (v0 : List Int) (v1 : Int) (v2 : Int) (rec_ : List Int → Int → Int → Option β) (k0 : Int → Option β) : Option β :=
(cond ((decide (v2 < (v0.length : Int))))
(zj31 N  N v0 v1 v2 true 0 (fun e2_0 e2_1 e2_2 e2_3 =>
(cond e2_3
(rec_ e2_0 ((w64 (e2_1 + 1))) ((w64 (e2_2 + 1))))
(rec_ e2_0 e2_1 ((w64 (e2_2 + 1)))))))
(k0 v1))
def zj33 {β : Type} (N : Nat)  : Nat → List Int → Int → Int → (Int → Option β) → Option β
  | 0, _, _, _, _ => none
  | F + 1, v0, v1, v2, k0 => zj32 N  v0 v1 v2 (fun v0 v1 v2 => zj33 N  F v0 v1 v2 k0) k0
def zj34 {β : Type} (N : Nat) (a0 : List Int) (k : Int → Option β) : Option β :=
zj33 N  N a0 0 0 (fun e3_0 =>
k e3_0)
/-! loop.example/g03403/spec.l21Fine -/
def zj35 {β : Type} (N : Nat) (a0 : Int) (a1 : Int) (a2 : Int) (k : Bool → Option β) : Option β :=
zj2 N a0 a1 fun r4 =>
(cond r4
(zj1 N a2 0 2 fun r5 =>
(cond r5
(zj1 N ((w64 (a0 - a2))) 0 2 fun r6 =>
k r6)
(k false)))
(k false))
/-! loop.example/g03403/spec.l21One -/
def zj36 {β : Type} (N : Nat)  (v0 : List Int) (v1 : Int) (v2 : Int) (v3 : Int) (v4 : Int) (v5 : Int) (rec_ : List Int → Int → Int → Int → Int → Int → Option β) (k0 : Int → Option β) (k1 : List Int → Int → Int → Int → Int → Option β) : Option β :=
(gd ((decide (0 ≤ v5)))
((cond ((decide ((shrI .i64 v2 v5) > 0)))
((gd ((decide (0 ≤ v5)))
((cond (((bits .and .i64 (shrI .i64 v2 v5) 1) == 0))
(rec_ v0 v1 v2 v3 v4 ((w64 (v5 + 1))))
((gd ((decide (0 ≤ v4)))
((gd ((decide (v4 < (v0.length : Int))))
((gd ((decide (0 ≤ v5)))
((cond ((decide (v3 ≥ 0)))
((cond (((bits .and .i64 (shrI .i64 (rd 0 v0 v4) v5) 1) != v3))
(k0 2)
(rec_ v0 v1 v2 ((bits .and .i64 (shrI .i64 (rd 0 v0 v4) v5) 1)) v4 ((w64 (v5 + 1))))))
(rec_ v0 v1 v2 ((bits .and .i64 (shrI .i64 (rd 0 v0 v4) v5) 1)) v4 ((w64 (v5 + 1))))))))))))))))
(k1 v0 v1 v2 v3 v4))))
def zj37 {β : Type} (N : Nat)  : Nat → List Int → Int → Int → Int → Int → Int → (Int → Option β) → (List Int → Int → Int → Int → Int → Option β) → Option β
  | 0, _, _, _, _, _, _, _, _ => none
  | F + 1, v0, v1, v2, v3, v4, v5, k0, k1 => zj36 N  v0 v1 v2 v3 v4 v5 (fun v0 v1 v2 v3 v4 v5 => zj37 N  F v0 v1 v2 v3 v4 v5 k0 k1) k0 k1
def zj38 {β : Type} (N : Nat)  (v0 : List Int) (v1 : Int) (v2 : Int) (v3 : Int) (v4 : Int) (rec_ : List Int → Int → Int → Int → Int → Option β) (k0 : Int → Option β) (k1 : Int → Option β) : Option β :=
(cond ((decide (v4 < (v0.length : Int))))
((gd ((decide (0 ≤ v4)))
((cond (((bits .and .i64 (shrI .i64 v1 v4) 1) == 0))
(rec_ v0 v1 v2 v3 ((w64 (v4 + 1))))
(zj37 N  N v0 v1 v2 v3 v4 0 (fun e4_0 =>
k0 e4_0) (fun e5_0 e5_1 e5_2 e5_3 e5_4 =>
rec_ e5_0 e5_1 e5_2 e5_3 ((w64 (e5_4 + 1)))))))))
(k1 v3))
def zj39 {β : Type} (N : Nat)  : Nat → List Int → Int → Int → Int → Int → (Int → Option β) → (Int → Option β) → Option β
  | 0, _, _, _, _, _, _, _ => none
  | F + 1, v0, v1, v2, v3, v4, k0, k1 => zj38 N  v0 v1 v2 v3 v4 (fun v0 v1 v2 v3 v4 => zj39 N  F v0 v1 v2 v3 v4 k0 k1) k0 k1
def zj40 {β : Type} (N : Nat) (a0 : List Int) (a1 : Int) (a2 : Int) (k : Int → Option β) : Option β :=
zj39 N  N a0 a1 a2 (-1) 0 (fun e6_0 =>
k e6_0) (fun e7_0 =>
k e7_0)
/-! loop.example/g03403/spec.l21Least -/
def zj41 {β : Type} (N : Nat) (self : List Int → Int → Int → Int → (Int → Option β) → Option β)  (v0 : List Int) (v1 : Int) (v2 : Int) (v3 : Int) (v4 : Int) (rec_ : List Int → Int → Int → Int → Int → Option β) (k0 : Int → Option β) (k1 : List Int → Int → Int → Int → Option β) : Option β :=
(cond ((decide (v4 > 0)))
((cond ((decide (v4 < (w64 (v1 - v4)))))
(rec_ v0 v1 v2 v3 ((bits .and .i64 (w64 (v4 - 1)) v1)))
(self v0 v4 v2 ((w64 (v3 - 2))) fun r6 =>
(cond ((decide ((w64 (1 + r6)) < v3)))
(self v0 ((w64 (v1 - v4))) v2 ((w64 (v3 - 2))) fun r7 =>
(cond (((mnI v3 (mxI (w64 (1 + r6)) (w64 (1 + r7)))) == 1))
(k0 ((mnI v3 (mxI (w64 (1 + r6)) (w64 (1 + r7))))))
(rec_ v0 v1 v2 ((mnI v3 (mxI (w64 (1 + r6)) (w64 (1 + r7))))) ((bits .and .i64 (w64 (v4 - 1)) v1)))))
((cond ((v3 == 1))
(k0 v3)
(rec_ v0 v1 v2 v3 ((bits .and .i64 (w64 (v4 - 1)) v1)))))))))
(k1 v0 v1 v2 v3))
def zj42 {β : Type} (N : Nat) (self : List Int → Int → Int → Int → (Int → Option β) → Option β)  : Nat → List Int → Int → Int → Int → Int → (Int → Option β) → (List Int → Int → Int → Int → Option β) → Option β
  | 0, _, _, _, _, _, _, _ => none
  | F + 1, v0, v1, v2, v3, v4, k0, k1 => zj41 N self  v0 v1 v2 v3 v4 (fun v0 v1 v2 v3 v4 => zj42 N self  F v0 v1 v2 v3 v4 k0 k1) k0 k1
def zj43 {β : Type} (N : Nat) (self : List Int → Int → Int → Int → (Int → Option β) → Option β)  (v0 : List Int) (v1 : Int) (v2 : Int) (v3 : Int) (v4 : Int) (rec_ : List Int → Int → Int → Int → Int → Option β) (k0 : Int → Option β) : Option β :=
(cond ((decide (v4 > 0)))
((cond ((decide (v4 < (w64 (v2 - v4)))))
(rec_ v0 v1 v2 v3 ((bits .and .i64 (w64 (v4 - 1)) v2)))
((cond ((v3 == 1))
(rec_ v0 v1 v2 v3 ((bits .and .i64 (w64 (v4 - 1)) v2)))
(self v0 v1 v4 ((w64 (v3 - 2))) fun r10 =>
(cond ((decide ((w64 (1 + r10)) < v3)))
(self v0 v1 ((w64 (v2 - v4))) ((w64 (v3 - 2))) fun r11 =>
rec_ v0 v1 v2 ((mnI v3 (mxI (w64 (1 + r10)) (w64 (1 + r11))))) ((bits .and .i64 (w64 (v4 - 1)) v2)))
(rec_ v0 v1 v2 v3 ((bits .and .i64 (w64 (v4 - 1)) v2)))))))))
(k0 v3))
def zj44 {β : Type} (N : Nat) (self : List Int → Int → Int → Int → (Int → Option β) → Option β)  : Nat → List Int → Int → Int → Int → Int → (Int → Option β) → Option β
  | 0, _, _, _, _, _, _ => none
  | F + 1, v0, v1, v2, v3, v4, k0 => zj43 N self  v0 v1 v2 v3 v4 (fun v0 v1 v2 v3 v4 => zj44 N self  F v0 v1 v2 v3 v4 k0) k0
def zj45 {β : Type} (N : Nat) (self : List Int → Int → Int → Int → (Int → Option β) → Option β) (a0 : List Int) (a1 : Int) (a2 : Int) (a3 : Int) (k : Int → Option β) : Option β :=
zj40 N a0 a1 a2 fun r5 =>
(cond ((decide (r5 < 2)))
(k 0)
((cond ((a3 == 0))
(k 1)
(zj42 N self  N a0 a1 a2 ((w64 (a3 + 1))) ((bits .and .i64 (w64 (a1 - 1)) a1)) (fun e8_0 =>
k e8_0) (fun e9_0 e9_1 e9_2 e9_3 =>
zj44 N self  N e9_0 e9_1 e9_2 e9_3 ((bits .and .i64 (w64 (e9_2 - 1)) e9_2)) (fun e12_0 =>
k e12_0))))))
def zj46 {β : Type} (N : Nat) : Nat → List Int → Int → Int → Int → (Int → Option β) → Option β
  | 0, _, _, _, _, _ => none
  | F + 1, a0, a1, a2, a3, k => zj45 N (zj46 N F) a0 a1 a2 a3 k
def zj47 {β : Type} (N : Nat) (a0 : List Int) (a1 : Int) (a2 : Int) (a3 : Int) (k : Int → Option β) : Option β := zj46 N N a0 a1 a2 a3 k
/-! loop.example/g03403/spec.LeastBits -/
def zj48 {β : Type} (N : Nat) (a0 : Int) (a1 : Int) (a2 : Int) (k : Int → Option β) : Option β :=
zj35 N a0 a1 a2 fun r4 =>
(cond (!r4)
(k (-1))
(zj7 N a0 a1 a2 fun r5 r6 =>
(gd ((decide (0 ≤ (r5.length : Int))))
((gd ((decide (0 ≤ (w64 (a0 - a2)))))
((gd ((decide (0 ≤ (shlI .u64 1 (w64 (a0 - a2))))))
(zj47 N r5 ((w64 ((shlI .i64 1 (r5.length : Int)) - 1))) ((w64 ((shlI .i64 1 (shlI .u64 1 (w64 (a0 - a2)))) - 1))) 4 fun r7 =>
k r7))))))))
/-! loop.example/g03403/spec.l21Hex -/
def zj49 {β : Type} (N : Nat) (a0 : Int) (k : ByteArray → Option β) : Option β :=
(gd ((decide (0 ≤ (w64 (a0 + 1)))))
((gd ((decide ((w64 (a0 + 1)) ≤ (((strOf [48, 49, 50, 51, 52, 53, 54, 55, 56, 57, 97, 98, 99, 100, 101, 102])).size : Int))))
((gd ((decide (0 ≤ a0)))
((gd ((decide (a0 ≤ (w64 (a0 + 1)))))
(k ((((strOf [48, 49, 50, 51, 52, 53, 54, 55, 56, 57, 97, 98, 99, 100, 101, 102])).extract (Int.toNat a0) (Int.toNat (w64 (a0 + 1)))))))))))))
/-! loop.example/g03403/spec.l21Build -/
def zj50 {β : Type} (N : Nat) (self : List Int → Int → Int → Int → (ByteArray → Option β) → Option β)  (v0 : List Int) (v1 : Int) (v2 : Int) (v3 : Int) (v4 : Int) (rec_ : List Int → Int → Int → Int → Int → Option β) (k0 : ByteArray → Option β) (k1 : List Int → Int → Int → Int → Option β) : Option β :=
(cond ((decide (v4 < v1)))
((cond (((bits .and .i64 v4 v1) == v4))
(zj47 N v0 v4 v2 ((w64 (v3 - 1))) fun r6 =>
(cond ((decide (r6 < v3)))
(zj47 N v0 ((w64 (v1 - v4))) v2 ((w64 (v3 - 1))) fun r7 =>
(cond ((decide (r7 < v3)))
(zj49 N v4 fun r8 =>
(gd ((decide (((strOf [65])).size + r8.size ≤ 9223372036854775807)))
(zj47 N v0 ((w64 (v1 - v4))) v2 ((w64 (v3 - 1))) fun r9 =>
self v0 ((w64 (v1 - v4))) v2 r9 fun r10 =>
(gd ((decide ((((strOf [65]) ++ r8)).size + r10.size ≤ 9223372036854775807)))
(zj47 N v0 v4 v2 ((w64 (v3 - 1))) fun r11 =>
self v0 v4 v2 r11 fun r12 =>
(gd ((decide (((((strOf [65]) ++ r8) ++ r10)).size + r12.size ≤ 9223372036854775807)))
(k0 (((((strOf [65]) ++ r8) ++ r10) ++ r12)))))))))
(rec_ v0 v1 v2 v3 ((w64 (v4 + 1))))))
(rec_ v0 v1 v2 v3 ((w64 (v4 + 1))))))
(rec_ v0 v1 v2 v3 ((w64 (v4 + 1))))))
(k1 v0 v1 v2 v3))
def zj51 {β : Type} (N : Nat) (self : List Int → Int → Int → Int → (ByteArray → Option β) → Option β)  : Nat → List Int → Int → Int → Int → Int → (ByteArray → Option β) → (List Int → Int → Int → Int → Option β) → Option β
  | 0, _, _, _, _, _, _, _ => none
  | F + 1, v0, v1, v2, v3, v4, k0, k1 => zj50 N self  v0 v1 v2 v3 v4 (fun v0 v1 v2 v3 v4 => zj51 N self  F v0 v1 v2 v3 v4 k0 k1) k0 k1
def zj52 {β : Type} (N : Nat) (self : List Int → Int → Int → Int → (ByteArray → Option β) → Option β)  (v0 : List Int) (v1 : Int) (v2 : Int) (v3 : Int) (v4 : Int) (rec_ : List Int → Int → Int → Int → Int → Option β) (k0 : ByteArray → Option β) (k1 : Option β) : Option β :=
(cond ((decide (v4 < v2)))
((cond (((bits .and .i64 v4 v2) == v4))
(zj47 N v0 v1 v4 ((w64 (v3 - 1))) fun r15 =>
(cond ((decide (r15 < v3)))
(zj47 N v0 v1 ((w64 (v2 - v4))) ((w64 (v3 - 1))) fun r16 =>
(cond ((decide (r16 < v3)))
(zj49 N v4 fun r17 =>
(gd ((decide (((strOf [66])).size + r17.size ≤ 9223372036854775807)))
(zj47 N v0 v1 ((w64 (v2 - v4))) ((w64 (v3 - 1))) fun r18 =>
self v0 v1 ((w64 (v2 - v4))) r18 fun r19 =>
(gd ((decide ((((strOf [66]) ++ r17)).size + r19.size ≤ 9223372036854775807)))
(zj47 N v0 v1 v4 ((w64 (v3 - 1))) fun r20 =>
self v0 v1 v4 r20 fun r21 =>
(gd ((decide (((((strOf [66]) ++ r17) ++ r19)).size + r21.size ≤ 9223372036854775807)))
(k0 (((((strOf [66]) ++ r17) ++ r19) ++ r21)))))))))
(rec_ v0 v1 v2 v3 ((w64 (v4 + 1))))))
(rec_ v0 v1 v2 v3 ((w64 (v4 + 1))))))
(rec_ v0 v1 v2 v3 ((w64 (v4 + 1))))))
(k1 ))
def zj53 {β : Type} (N : Nat) (self : List Int → Int → Int → Int → (ByteArray → Option β) → Option β)  : Nat → List Int → Int → Int → Int → Int → (ByteArray → Option β) → (Option β) → Option β
  | 0, _, _, _, _, _, _, _ => none
  | F + 1, v0, v1, v2, v3, v4, k0, k1 => zj52 N self  v0 v1 v2 v3 v4 (fun v0 v1 v2 v3 v4 => zj53 N self  F v0 v1 v2 v3 v4 k0 k1) k0 k1
def zj54 {β : Type} (N : Nat) (self : List Int → Int → Int → Int → (ByteArray → Option β) → Option β) (a0 : List Int) (a1 : Int) (a2 : Int) (a3 : Int) (k : ByteArray → Option β) : Option β :=
zj40 N a0 a1 a2 fun r5 =>
(cond ((decide (r5 < 2)))
((gd ((decide (0 ≤ (w64 (r5 + 1)))))
((gd ((decide ((w64 (r5 + 1)) ≤ (((strOf [48, 49])).size : Int))))
((gd ((decide (0 ≤ r5)))
((gd ((decide (r5 ≤ (w64 (r5 + 1)))))
(k ((((strOf [48, 49])).extract (Int.toNat r5) (Int.toNat (w64 (r5 + 1))))))))))))))
(zj51 N self  N a0 a1 a2 a3 1 (fun e13_0 =>
k e13_0) (fun e14_0 e14_1 e14_2 e14_3 =>
zj53 N self  N e14_0 e14_1 e14_2 e14_3 1 (fun e22_0 =>
k e22_0) (k ByteArray.empty))))
def zj55 {β : Type} (N : Nat) : Nat → List Int → Int → Int → Int → (ByteArray → Option β) → Option β
  | 0, _, _, _, _, _ => none
  | F + 1, a0, a1, a2, a3, k => zj54 N (zj55 N F) a0 a1 a2 a3 k
def zj56 {β : Type} (N : Nat) (a0 : List Int) (a1 : Int) (a2 : Int) (a3 : Int) (k : ByteArray → Option β) : Option β := zj55 N N a0 a1 a2 a3 k
/-! loop.example/g03403/spec.ProtocolOf -/
def zj57 {β : Type} (N : Nat) (a0 : Int) (a1 : Int) (a2 : Int) (k : ByteArray → Bool → Option β) : Option β :=
zj35 N a0 a1 a2 fun r5 =>
(cond (!r5)
(k ByteArray.empty false)
(zj7 N a0 a1 a2 fun r6 r7 =>
(gd ((decide (0 ≤ (r6.length : Int))))
((gd ((decide (0 ≤ (w64 (a0 - a2)))))
((gd ((decide (0 ≤ (shlI .u64 1 (w64 (a0 - a2))))))
(zj48 N a0 a1 a2 fun r8 =>
zj56 N r6 ((w64 ((shlI .i64 1 (r6.length : Int)) - 1))) ((w64 ((shlI .i64 1 (shlI .u64 1 (w64 (a0 - a2)))) - 1))) r8 fun r9 =>
k r9 true))))))))
/-! loop.example/g03403/spec.SplitLine -/
def zj58 {β : Type} (N : Nat) (a0 : Int) (a1 : Int) (a2 : Int) (k : ByteArray → Option β) : Option β :=
zj7 N a0 a1 a2 fun r4 r5 =>
(cond (!r5)
(k ByteArray.empty)
((cond ((decide (a0 > 4)))
(k ByteArray.empty)
(zj18 N a0 a1 a2 0 fun r6 r7 =>
zj18 N a0 a1 a2 1 fun r8 r9 =>
zj24 N r4 fun r10 =>
(gd ((decide (((strOf [115, 112, 108, 105, 116, 32, 114, 111, 119, 115, 32])).size + r10.size ≤ 9223372036854775807)))
((gd ((decide ((((strOf [115, 112, 108, 105, 116, 32, 114, 111, 119, 115, 32]) ++ r10)).size + ((strOf [32, 114, 97, 110, 107, 32])).size ≤ 9223372036854775807)))
(zj29 N r4 fun r11 =>
zj21 N r11 fun r12 =>
(gd ((decide (((((strOf [115, 112, 108, 105, 116, 32, 114, 111, 119, 115, 32]) ++ r10) ++ (strOf [32, 114, 97, 110, 107, 32]))).size + r12.size ≤ 9223372036854775807)))
((gd ((decide ((((((strOf [115, 112, 108, 105, 116, 32, 114, 111, 119, 115, 32]) ++ r10) ++ (strOf [32, 114, 97, 110, 107, 32])) ++ r12)).size + ((strOf [32, 100, 105, 102, 102, 101, 114, 101, 110, 116, 32])).size ≤ 9223372036854775807)))
(zj34 N r4 fun r13 =>
zj21 N r13 fun r14 =>
(gd ((decide (((((((strOf [115, 112, 108, 105, 116, 32, 114, 111, 119, 115, 32]) ++ r10) ++ (strOf [32, 114, 97, 110, 107, 32])) ++ r12) ++ (strOf [32, 100, 105, 102, 102, 101, 114, 101, 110, 116, 32]))).size + r14.size ≤ 9223372036854775807)))
((gd ((decide ((((((((strOf [115, 112, 108, 105, 116, 32, 114, 111, 119, 115, 32]) ++ r10) ++ (strOf [32, 114, 97, 110, 107, 32])) ++ r12) ++ (strOf [32, 100, 105, 102, 102, 101, 114, 101, 110, 116, 32])) ++ r14)).size + ((strOf [32, 102, 111, 111, 108, 105, 110, 103, 32])).size ≤ 9223372036854775807)))
(zj21 N ((r6.length : Int)) fun r15 =>
(gd ((decide (((((((((strOf [115, 112, 108, 105, 116, 32, 114, 111, 119, 115, 32]) ++ r10) ++ (strOf [32, 114, 97, 110, 107, 32])) ++ r12) ++ (strOf [32, 100, 105, 102, 102, 101, 114, 101, 110, 116, 32])) ++ r14) ++ (strOf [32, 102, 111, 111, 108, 105, 110, 103, 32]))).size + r15.size ≤ 9223372036854775807)))
((gd ((decide ((((((((((strOf [115, 112, 108, 105, 116, 32, 114, 111, 119, 115, 32]) ++ r10) ++ (strOf [32, 114, 97, 110, 107, 32])) ++ r12) ++ (strOf [32, 100, 105, 102, 102, 101, 114, 101, 110, 116, 32])) ++ r14) ++ (strOf [32, 102, 111, 111, 108, 105, 110, 103, 32])) ++ r15)).size + ((strOf [44])).size ≤ 9223372036854775807)))
(zj21 N ((r8.length : Int)) fun r16 =>
(gd ((decide (((((((((((strOf [115, 112, 108, 105, 116, 32, 114, 111, 119, 115, 32]) ++ r10) ++ (strOf [32, 114, 97, 110, 107, 32])) ++ r12) ++ (strOf [32, 100, 105, 102, 102, 101, 114, 101, 110, 116, 32])) ++ r14) ++ (strOf [32, 102, 111, 111, 108, 105, 110, 103, 32])) ++ r15) ++ (strOf [44]))).size + r16.size ≤ 9223372036854775807)))
(zj35 N a0 a1 a2 fun r17 =>
(cond r17
(zj57 N a0 a1 a2 fun r18 r19 =>
(gd ((decide ((((((((((((strOf [115, 112, 108, 105, 116, 32, 114, 111, 119, 115, 32]) ++ r10) ++ (strOf [32, 114, 97, 110, 107, 32])) ++ r12) ++ (strOf [32, 100, 105, 102, 102, 101, 114, 101, 110, 116, 32])) ++ r14) ++ (strOf [32, 102, 111, 111, 108, 105, 110, 103, 32])) ++ r15) ++ (strOf [44])) ++ r16)).size + ((strOf [32, 98, 105, 116, 115, 32])).size ≤ 9223372036854775807)))
(zj48 N a0 a1 a2 fun r20 =>
zj21 N r20 fun r21 =>
(gd ((decide (((((((((((((strOf [115, 112, 108, 105, 116, 32, 114, 111, 119, 115, 32]) ++ r10) ++ (strOf [32, 114, 97, 110, 107, 32])) ++ r12) ++ (strOf [32, 100, 105, 102, 102, 101, 114, 101, 110, 116, 32])) ++ r14) ++ (strOf [32, 102, 111, 111, 108, 105, 110, 103, 32])) ++ r15) ++ (strOf [44])) ++ r16) ++ (strOf [32, 98, 105, 116, 115, 32]))).size + r21.size ≤ 9223372036854775807)))
((gd ((decide ((((((((((((((strOf [115, 112, 108, 105, 116, 32, 114, 111, 119, 115, 32]) ++ r10) ++ (strOf [32, 114, 97, 110, 107, 32])) ++ r12) ++ (strOf [32, 100, 105, 102, 102, 101, 114, 101, 110, 116, 32])) ++ r14) ++ (strOf [32, 102, 111, 111, 108, 105, 110, 103, 32])) ++ r15) ++ (strOf [44])) ++ r16) ++ (strOf [32, 98, 105, 116, 115, 32])) ++ r21)).size + ((strOf [32, 112, 114, 111, 116, 111, 99, 111, 108, 32])).size ≤ 9223372036854775807)))
((gd ((decide (((((((((((((((strOf [115, 112, 108, 105, 116, 32, 114, 111, 119, 115, 32]) ++ r10) ++ (strOf [32, 114, 97, 110, 107, 32])) ++ r12) ++ (strOf [32, 100, 105, 102, 102, 101, 114, 101, 110, 116, 32])) ++ r14) ++ (strOf [32, 102, 111, 111, 108, 105, 110, 103, 32])) ++ r15) ++ (strOf [44])) ++ r16) ++ (strOf [32, 98, 105, 116, 115, 32])) ++ r21) ++ (strOf [32, 112, 114, 111, 116, 111, 99, 111, 108, 32]))).size + r18.size ≤ 9223372036854775807)))
(k (((((((((((((((strOf [115, 112, 108, 105, 116, 32, 114, 111, 119, 115, 32]) ++ r10) ++ (strOf [32, 114, 97, 110, 107, 32])) ++ r12) ++ (strOf [32, 100, 105, 102, 102, 101, 114, 101, 110, 116, 32])) ++ r14) ++ (strOf [32, 102, 111, 111, 108, 105, 110, 103, 32])) ++ r15) ++ (strOf [44])) ++ r16) ++ (strOf [32, 98, 105, 116, 115, 32])) ++ r21) ++ (strOf [32, 112, 114, 111, 116, 111, 99, 111, 108, 32])) ++ r18)))))))))))
(k (((((((((((strOf [115, 112, 108, 105, 116, 32, 114, 111, 119, 115, 32]) ++ r10) ++ (strOf [32, 114, 97, 110, 107, 32])) ++ r12) ++ (strOf [32, 100, 105, 102, 102, 101, 114, 101, 110, 116, 32])) ++ r14) ++ (strOf [32, 102, 111, 111, 108, 105, 110, 103, 32])) ++ r15) ++ (strOf [44])) ++ r16))))))))))))))))))))))))))
/-! loop.example/g03403/impl.isBits -/
def zj59 {β : Type} (N : Nat) (a0 : Int) (k : Bool → Option β) : Option β :=
(cond ((decide (a0 ≥ 0)))
(k ((decide (a0 ≤ 5))))
(k false))
/-! (loop.example/g03403/impl.Table).size -/
def zj60 {β : Type} (N : Nat) (a0 : Int) (a1 : Int) (k : Int → Option β) : Option β :=
(gd ((decide (0 ≤ a0)))
(k ((shlI .i64 1 a0))))
/-! loop.example/g03403/impl.IsTable -/
def zj61 {β : Type} (N : Nat) (a0 : Int) (a1 : Int) (k : Bool → Option β) : Option β :=
zj59 N a0 fun r3 =>
(cond r3
((cond ((decide (a1 ≥ 0)))
(zj60 N a0 a1 fun r4 =>
(gd ((decide (0 ≤ r4)))
(k (((shrI .i64 a1 r4) == 0)))))
(k false)))
(k false))
/-! loop.example/g03403/impl.isSplit -/
def zj62 {β : Type} (N : Nat) (a0 : Int) (a1 : Int) (a2 : Int) (k : Bool → Option β) : Option β :=
zj61 N a0 a1 fun r4 =>
(cond r4
((cond ((decide (a2 ≥ 0)))
(k ((decide (a2 ≤ a0))))
(k false)))
(k false))
/-! (loop.example/g03403/impl.Table).at -/
def zj63 {β : Type} (N : Nat) (a0 : Int) (a1 : Int) (a2 : Int) (k : Int → Option β) : Option β :=
(gd ((decide (0 ≤ a2)))
(k ((bits .and .i64 (shrI .i64 a1 a2) 1))))
/-! (loop.example/g03403/impl.Table).rows -/
def zj64 {β : Type} (N : Nat)  (v0 : Int) (v1 : Int) (v2 : Int) (v3 : Int) (v4 : Int) (v5 : List Int) (rec_ : Int → Int → Int → Int → Int → List Int → Option β) (k0 : List Int → Option β) : Option β :=
(cond ((decide (v2 < v1)))
((gd ((decide (0 ≤ v0)))
((gd ((decide (0 ≤ (bits .and .i64 v2 (w64 ((shlI .i64 1 v0) - 1))))))
((gd ((decide ((bits .and .i64 v2 (w64 ((shlI .i64 1 v0) - 1))) < (v5.length : Int))))
((gd ((decide (0 ≤ v0)))
(zj63 N v3 v4 v2 fun r5 =>
(gd ((decide (0 ≤ (shrI .i64 v2 v0))))
((gd ((decide (0 ≤ (bits .and .i64 v2 (w64 ((shlI .i64 1 v0) - 1))))))
((gd ((decide ((bits .and .i64 v2 (w64 ((shlI .i64 1 v0) - 1))) < (v5.length : Int))))
(rec_ v0 v1 ((w64 (v2 + 1))) v3 v4 ((wr v5 (bits .and .i64 v2 (w64 ((shlI .i64 1 v0) - 1))) (bits .or .i64 (rd 0 v5 (bits .and .i64 v2 (w64 ((shlI .i64 1 v0) - 1)))) (shlI .i64 r5 (shrI .i64 v2 v0))))))))))))))))))))
(k0 v5))
def zj65 {β : Type} (N : Nat)  : Nat → Int → Int → Int → Int → Int → List Int → (List Int → Option β) → Option β
  | 0, _, _, _, _, _, _, _ => none
  | F + 1, v0, v1, v2, v3, v4, v5, k0 => zj64 N  v0 v1 v2 v3 v4 v5 (fun v0 v1 v2 v3 v4 v5 => zj65 N  F v0 v1 v2 v3 v4 v5 k0) k0
def zj66 {β : Type} (N : Nat) (a0 : Int) (a1 : Int) (a2 : Int) (k : List Int → Option β) : Option β :=
(gd ((decide (0 ≤ a2)))
((gd ((decide (0 ≤ (shlI .i64 1 a2))))
((gd ((decide ((shlI .i64 1 a2) ≤ (shlI .i64 1 a2))))
((gd ((decide (8 * (shlI .i64 1 a2) ≤ 281474976710656)))
(zj60 N a0 a1 fun r4 =>
zj65 N  N a2 r4 0 a0 a1 ((List.replicate (Int.toNat (shlI .i64 1 a2)) (0 : Int))) (fun e6_0 =>
k e6_0)))))))))
/-! loop.example/g03403/impl.isBit -/
def zj67 {β : Type} (N : Nat) (a0 : Int) (k : Bool → Option β) : Option β :=
(cond ((a0 == 0))
(k true)
(k ((a0 == 1))))
/-! (loop.example/g03403/impl.Table).apartBy -/
def zj68 {β : Type} (N : Nat) (a0 : Int) (a1 : Int) (a2 : Int) (a3 : Int) (a4 : Int) (a5 : Int) (k : Bool → Option β) : Option β :=
(gd ((decide (0 ≤ a2)))
(zj63 N a0 a1 ((bits .or .i64 (bits .and .i64 a4 (w64 ((shlI .i64 1 a2) - 1))) (bits .andNot .i64 a5 (w64 ((shlI .i64 1 a2) - 1))))) fun r7 =>
(cond ((r7 != a3))
(k true)
(zj63 N a0 a1 ((bits .or .i64 (bits .and .i64 a5 (w64 ((shlI .i64 1 a2) - 1))) (bits .andNot .i64 a4 (w64 ((shlI .i64 1 a2) - 1))))) fun r8 =>
k ((r8 != a3))))))
/-! (*loop.example/g03403/impl.fooling).grow$1 -/
def zj69 {β : Type} (N : Nat) (a0 : Int) (c0 : Int) (c1 : Int) (c2 : Int) (c3 : Int) (c4 : List Int) (c5 : Int) (k : Bool → Option β) : Option β :=
zj68 N c0 c1 c2 c3 a0 c5 fun r2 =>
k (!r2)
/-! loop.example/g03403/impl.RankMod2$1 -/
def zj70 {β : Type} (N : Nat) (a0 : Int) (k : Bool → Option β) : Option β :=
(cond ((decide (a0 < 0)))
(k true)
(k (((shrI .i64 a0 32) != 0))))
/-! slices.IndexFunc[[]int,int] -/
def zj71 {β : Type} (N : Nat) (a1 : (Int → (Bool → Option β) → Option β)) (v0 : List Int) (v1 : Int) (v2 : Int) (rec_ : List Int → Int → Int → Option β) (k0 : Int → Option β) (k1 : Option β) : Option β :=
(cond ((decide (v2 < v1)))
((gd ((decide (0 ≤ v2)))
((gd ((decide (v2 < (v0.length : Int))))
(a1 ((rd 0 v0 v2)) fun r3 =>
(cond r3
(k0 v2)
(rec_ v0 v1 ((w64 (v2 + 1))))))))))
(k1 ))
def zj72 {β : Type} (N : Nat) (a1 : (Int → (Bool → Option β) → Option β)) : Nat → List Int → Int → Int → (Int → Option β) → (Option β) → Option β
  | 0, _, _, _, _, _ => none
  | F + 1, v0, v1, v2, k0, k1 => zj71 N a1 v0 v1 v2 (fun v0 v1 v2 => zj72 N a1 F v0 v1 v2 k0 k1) k0 k1
def zj73 {β : Type} (N : Nat) (a0 : List Int) (a1 : (Int → (Bool → Option β) → Option β)) (k : Int → Option β) : Option β :=
zj72 N a1 N a0 ((a0.length : Int)) 0 (fun e4_0 =>
k e4_0) (k (-1))
/-! slices.ContainsFunc[[]int,int] -/
def zj74 {β : Type} (N : Nat) (a0 : List Int) (a1 : (Int → (Bool → Option β) → Option β)) (k : Bool → Option β) : Option β :=
zj73 N a0 a1 fun r3 =>
k ((decide (r3 ≥ 0)))
/-! (*loop.example/g03403/impl.fooling).grow -/
def zj75 {β : Type} (s0 : Int) (s1 : Int) (s2 : Int) (s3 : Int) (s4 : List Int) (s5 : List Int) (s6 : Int) (u0 : Int) (u1 : Int) (u2 : Int) (u3 : Int) (u4 : List Int) (u5 : List Int) (u6 : Int) (K : Option β) : Option β :=
(gd (s0 == u0) (gd (s1 == u1) (gd (s2 == u2) (gd (s3 == u3) (gd (s4 == u4) (gd (s5 == u5) (gd (s6 == u6) K)))))))
def zj76 {β : Type} (N : Nat) (self : Int → Int → Int → Int → Int → List Int → List Int → (Int → Int → Int → Int → List Int → List Int → Option β) → Option β)  (v0 : Int) (v1 : Int) (v2 : Int) (v3 : Int) (v4 : List Int) (v5 : List Int) (v6 : Int) (rec_ : Int → Int → Int → Int → List Int → List Int → Int → Option β) (k0 : Int → Int → Int → Int → List Int → List Int → Option β) : Option β :=
zj60 N v0 v1 fun r9 =>
(cond ((decide (v6 < r9)))
(zj60 N v0 v1 fun r10 =>
(cond ((decide ((w64 ((w64 ((v5.length : Int) + r10)) - v6)) > (v4.length : Int))))
(zj63 N v0 v1 v6 fun r11 =>
(cond ((r11 == v3))
(zj74 N v5 (fun x0 k => zj69 N x0 v0 v1 v2 v3 v4 v6 k) fun r12 =>
(cond (!r12)
(slices_Clone_Sint_int N v5 fun r13 =>
(gd ((decide ((r13.length + ((([] : List Int) ++ [v6])).length) * 8 ≤ 140737488355328)))
(self ((w64 (v6 + 1))) v0 v1 v2 v3 v4 ((r13 ++ (([] : List Int) ++ [v6]))) (fun r14_0 r14_1 r14_2 r14_3 r14_4 r14_5 =>
slices_Clone_Sint_int N v5 fun r15 =>
(gd ((decide ((r15.length + ((([] : List Int) ++ [v6])).length) * 8 ≤ 140737488355328)))
(self ((w64 (v6 + 1))) v0 v1 v2 v3 v4 ((r15 ++ (([] : List Int) ++ [v6]))) (fun r16_0 r16_1 r16_2 r16_3 r16_4 r16_5 =>
(zj75 r14_0 r14_1 r14_2 r14_3 r14_4 v5 v6 r16_0 r16_1 r16_2 r16_3 r16_4 v5 v6
(rec_ r14_0 r14_1 r14_2 r14_3 r14_4 v5 ((w64 (v6 + 1))))))))))))
(rec_ v0 v1 v2 v3 v4 v5 ((w64 (v6 + 1))))))
(rec_ v0 v1 v2 v3 v4 v5 ((w64 (v6 + 1))))))
(k0 v0 v1 v2 v3 v4 v5)))
(k0 v0 v1 v2 v3 v4 v5))
def zj77 {β : Type} (N : Nat) (self : Int → Int → Int → Int → Int → List Int → List Int → (Int → Int → Int → Int → List Int → List Int → Option β) → Option β)  : Nat → Int → Int → Int → Int → List Int → List Int → Int → (Int → Int → Int → Int → List Int → List Int → Option β) → Option β
  | 0, _, _, _, _, _, _, _, _ => none
  | F + 1, v0, v1, v2, v3, v4, v5, v6, k0 => zj76 N self  v0 v1 v2 v3 v4 v5 v6 (fun v0 v1 v2 v3 v4 v5 v6 => zj77 N self  F v0 v1 v2 v3 v4 v5 v6 k0) k0
def zj78 {β : Type} (N : Nat) (self : Int → Int → Int → Int → Int → List Int → List Int → (Int → Int → Int → Int → List Int → List Int → Option β) → Option β) (a0 : Int) (a1 : Int) (a2 : Int) (a3 : Int) (a4 : Int) (a5 : List Int) (a6 : List Int) (k0 : Int → Int → Int → Int → List Int → List Int → Option β) : Option β :=
(cond ((decide ((a6.length : Int) > (a5.length : Int))))
(slices_Clone_Sint_int N a6 fun r8 =>
zj77 N self  N a1 a2 a3 a4 r8 a6 a0 (fun e17_0 e17_1 e17_2 e17_3 e17_4 e17_5 =>
k0 e17_0 e17_1 e17_2 e17_3 e17_4 e17_5))
(zj77 N self  N a1 a2 a3 a4 a5 a6 a0 (fun e18_0 e18_1 e18_2 e18_3 e18_4 e18_5 =>
k0 e18_0 e18_1 e18_2 e18_3 e18_4 e18_5)))
def zj79 {β : Type} (N : Nat) : Nat → Int → Int → Int → Int → Int → List Int → List Int → (Int → Int → Int → Int → List Int → List Int → Option β) → Option β
  | 0, _, _, _, _, _, _, _, _ => none
  | F + 1, a0, a1, a2, a3, a4, a5, a6, k0 => zj78 N (zj79 N F) a0 a1 a2 a3 a4 a5 a6 k0
def zj80 {β : Type} (N : Nat) (a0 : Int) (a1 : Int) (a2 : Int) (a3 : Int) (a4 : Int) (a5 : List Int) (a6 : List Int) (k0 : Int → Int → Int → Int → List Int → List Int → Option β) : Option β := zj79 N N a0 a1 a2 a3 a4 a5 a6 k0
/-! loop.example/g03403/impl.LargestFooling -/
def zj81 {β : Type} (N : Nat) (a0 : Int) (a1 : Int) (a2 : Int) (a3 : Int) (k : List Int → Bool → Option β) : Option β :=
zj62 N a0 a1 a2 fun r6 =>
(cond (!r6)
(k (([] : List Int)) false)
((cond ((decide (a0 > 4)))
(k (([] : List Int)) false)
(zj67 N a3 fun r7 =>
(cond (!r7)
(k (([] : List Int)) false)
(zj80 N 0 a0 a1 a2 a3 (([] : List Int)) (([] : List Int)) (fun r8_0 r8_1 r8_2 r8_3 r8_4 r8_5 =>
k r8_4 true)))))))
/-! loop.example/g03403/impl.FormatInt -/
def zj82 {β : Type} (N : Nat) (a0 : Int) (k : ByteArray → Option β) : Option β :=
strconv_Itoa N a0 fun r2 =>
k r2
/-! loop.example/g03403/impl.listText -/
def zj83 {β : Type} (N : Nat)  (v0 : List Int) (v1 : Int) (v2 : Int) (v3 : List ByteArray) (rec_ : List Int → Int → Int → List ByteArray → Option β) (k0 : List ByteArray → Option β) : Option β :=
(cond ((decide (v2 < v1)))
((gd ((decide (0 ≤ v2)))
((gd ((decide (v2 < (v0.length : Int))))
(zj82 N ((rd 0 v0 v2)) fun r2 =>
(gd ((decide (0 ≤ v2)))
((gd ((decide (v2 < (v3.length : Int))))
(rec_ v0 v1 ((w64 (v2 + 1))) ((wr v3 v2 r2)))))))))))
(k0 v3))
def zj84 {β : Type} (N : Nat)  : Nat → List Int → Int → Int → List ByteArray → (List ByteArray → Option β) → Option β
  | 0, _, _, _, _, _ => none
  | F + 1, v0, v1, v2, v3, k0 => zj83 N  v0 v1 v2 v3 (fun v0 v1 v2 v3 => zj84 N  F v0 v1 v2 v3 k0) k0
def zj85 {β : Type} (N : Nat) (a0 : List Int) (k : ByteArray → Option β) : Option β :=
(cond (((a0.length : Int) == 0))
(k ((strOf [110, 111, 110, 101])))
((gd ((decide (0 ≤ (a0.length : Int))))
((gd ((decide ((a0.length : Int) ≤ (a0.length : Int))))
((gd ((decide (16 * (a0.length : Int) ≤ 281474976710656)))
(zj84 N  N a0 ((a0.length : Int)) 0 ((List.replicate (Int.toNat (a0.length : Int)) ByteArray.empty)) (fun e3_0 =>
strings_Join N e3_0 ((strOf [44])) fun r4 =>
k r4)))))))))
/-! math/bits.Len64 -/
def zj86 {β : Type} (N : Nat) (a0 : Int) (k : Int → Option β) : Option β :=
(cond ((decide (a0 ≥ 4294967296)))
((cond ((decide ((shrI .u64 a0 32) ≥ 65536)))
((cond ((decide ((shrI .u64 (shrI .u64 a0 32) 16) ≥ 256)))
((gd ((decide (0 ≤ (w8 ((shrI .u64 (shrI .u64 (shrI .u64 a0 32) 16) 8))))))
((gd ((decide ((w8 ((shrI .u64 (shrI .u64 (shrI .u64 a0 32) 16) 8))) < (len8.size : Int))))
(k ((w64 (56 + (w64 ((bt len8 (w8 ((shrI .u64 (shrI .u64 (shrI .u64 a0 32) 16) 8))))))))))))))
((gd ((decide (0 ≤ (w8 ((shrI .u64 (shrI .u64 a0 32) 16))))))
((gd ((decide ((w8 ((shrI .u64 (shrI .u64 a0 32) 16))) < (len8.size : Int))))
(k ((w64 (48 + (w64 ((bt len8 (w8 ((shrI .u64 (shrI .u64 a0 32) 16))))))))))))))))
((cond ((decide ((shrI .u64 a0 32) ≥ 256)))
((gd ((decide (0 ≤ (w8 ((shrI .u64 (shrI .u64 a0 32) 8))))))
((gd ((decide ((w8 ((shrI .u64 (shrI .u64 a0 32) 8))) < (len8.size : Int))))
(k ((w64 (40 + (w64 ((bt len8 (w8 ((shrI .u64 (shrI .u64 a0 32) 8))))))))))))))
((gd ((decide (0 ≤ (w8 ((shrI .u64 a0 32))))))
((gd ((decide ((w8 ((shrI .u64 a0 32))) < (len8.size : Int))))
(k ((w64 (32 + (w64 ((bt len8 (w8 ((shrI .u64 a0 32))))))))))))))))))
((cond ((decide (a0 ≥ 65536)))
((cond ((decide ((shrI .u64 a0 16) ≥ 256)))
((gd ((decide (0 ≤ (w8 ((shrI .u64 (shrI .u64 a0 16) 8))))))
((gd ((decide ((w8 ((shrI .u64 (shrI .u64 a0 16) 8))) < (len8.size : Int))))
(k ((w64 (24 + (w64 ((bt len8 (w8 ((shrI .u64 (shrI .u64 a0 16) 8))))))))))))))
((gd ((decide (0 ≤ (w8 ((shrI .u64 a0 16))))))
((gd ((decide ((w8 ((shrI .u64 a0 16))) < (len8.size : Int))))
(k ((w64 (16 + (w64 ((bt len8 (w8 ((shrI .u64 a0 16))))))))))))))))
((cond ((decide (a0 ≥ 256)))
((gd ((decide (0 ≤ (w8 ((shrI .u64 a0 8))))))
((gd ((decide ((w8 ((shrI .u64 a0 8))) < (len8.size : Int))))
(k ((w64 (8 + (w64 ((bt len8 (w8 ((shrI .u64 a0 8))))))))))))))
((gd ((decide (0 ≤ (w8 (a0)))))
((gd ((decide ((w8 (a0)) < (len8.size : Int))))
(k ((w64 (0 + (w64 ((bt len8 (w8 (a0))))))))))))))))))
/-! loop.example/g03403/impl.RankMod2 -/
def zj87 {β : Type} (N : Nat)  (v0 : Int) (v1 : List Int) (v2 : Int) (v3 : Int) (v4 : Mp) (rec_ : Int → List Int → Int → Int → Mp → Option β) (k0 : List Int → Int → Int → Mp → Option β) : Option β :=
(cond ((v0 != 0))
(zj86 N ((wu64 (v0))) fun r3 =>
(cond ((!(hasM ⟨false, false⟩ v4 r3 0)))
(k0 v1 v2 v3 ((putM ⟨false, false⟩ v4 r3 0 v0)))
(rec_ ((bits .xor .i64 v0 (getM ⟨false, false⟩ v4 r3 0))) v1 v2 v3 v4)))
(k0 v1 v2 v3 v4))
def zj88 {β : Type} (N : Nat)  : Nat → Int → List Int → Int → Int → Mp → (List Int → Int → Int → Mp → Option β) → Option β
  | 0, _, _, _, _, _, _ => none
  | F + 1, v0, v1, v2, v3, v4, k0 => zj87 N  v0 v1 v2 v3 v4 (fun v0 v1 v2 v3 v4 => zj88 N  F v0 v1 v2 v3 v4 k0) k0
def zj89 {β : Type} (N : Nat)  (v0 : List Int) (v1 : Int) (v2 : Int) (v3 : Mp) (rec_ : List Int → Int → Int → Mp → Option β) (k0 : Mp → Option β) : Option β :=
(cond ((decide (v2 < v1)))
((gd ((decide (0 ≤ v2)))
((gd ((decide (v2 < (v0.length : Int))))
(zj88 N  N ((rd 0 v0 v2)) v0 v1 v2 v3 (fun e4_0 e4_1 e4_2 e4_3 =>
rec_ e4_0 e4_1 ((w64 (e4_2 + 1))) e4_3))))))
(k0 v3))
def zj90 {β : Type} (N : Nat)  : Nat → List Int → Int → Int → Mp → (Mp → Option β) → Option β
  | 0, _, _, _, _, _ => none
  | F + 1, v0, v1, v2, v3, k0 => zj89 N  v0 v1 v2 v3 (fun v0 v1 v2 v3 => zj90 N  F v0 v1 v2 v3 k0) k0
def zj91 {β : Type} (N : Nat) (a0 : List Int) (k : Int → Option β) : Option β :=
(cond ((decide ((a0.length : Int) > 32)))
(k (-1))
(zj74 N a0 (fun x0 k => zj70 N x0 k) fun r2 =>
(cond r2
(k (-1))
(zj90 N  N a0 ((a0.length : Int)) 0 (([] : Mp)) (fun e5_0 =>
k ((e5_0.length : Int)))))))
/-! loop.example/g03403/impl.DifferentRows -/
def zj92 {β : Type} (N : Nat)  (v0 : List Int) (v1 : Int) (v2 : Int) (v3 : Mp) (rec_ : List Int → Int → Int → Mp → Option β) (k0 : Mp → Option β) : Option β :=
(cond ((decide (v2 < v1)))
((gd ((decide (0 ≤ v2)))
((gd ((decide (v2 < (v0.length : Int))))
(rec_ v0 v1 ((w64 (v2 + 1))) ((putM ⟨false, true⟩ v3 (rd 0 v0 v2) 0 ((cond true (1 : Int) 0)))))))))
(k0 v3))
def zj93 {β : Type} (N : Nat)  : Nat → List Int → Int → Int → Mp → (Mp → Option β) → Option β
  | 0, _, _, _, _, _ => none
  | F + 1, v0, v1, v2, v3, k0 => zj92 N  v0 v1 v2 v3 (fun v0 v1 v2 v3 => zj93 N  F v0 v1 v2 v3 k0) k0
def zj94 {β : Type} (N : Nat) (a0 : List Int) (k : Int → Option β) : Option β :=
zj93 N  N a0 ((a0.length : Int)) 0 (([] : Mp)) (fun e2_0 =>
k ((e2_0.length : Int)))
/-! (loop.example/g03403/impl.Table).talking -/
def zj95 {β : Type} (N : Nat) (a0 : Int) (a1 : Int) (a2 : Int) (k0 : Int → Int → Option β) (k1 : Int → Int → Int → Int → Int → Mp → Option β) : Option β :=
zj62 N a0 a1 a2 fun r5 =>
(cond (!r5)
(k0 0 0)
((cond ((decide (a2 > 2)))
(k0 0 0)
((cond ((decide ((w64 (a0 - a2)) > 2)))
(k0 0 0)
((gd ((decide (0 ≤ a2)))
((gd ((decide (0 ≤ (shlI .u64 1 a2))))
((gd ((decide (0 ≤ (w64 (a0 - a2)))))
((gd ((decide (0 ≤ (shlI .u64 1 (w64 (a0 - a2))))))
(k1 ((w64 ((shlI .i64 1 (shlI .u64 1 a2)) - 1))) ((w64 ((shlI .i64 1 (shlI .u64 1 (w64 (a0 - a2)))) - 1))) a0 a1 a2 (([] : Mp))))))))))))))))
/-! (loop.example/g03403/impl.sides).parted -/
def zj96 {β : Type} (s0 : Bool) (s1 : Int) (s2 : Int) (s3 : Int) (s4 : Int) (K : Option β) : Option β :=
(gd (s0 == s0) (gd (s1 == s1) (gd (s2 == s2) (gd (s3 == s3) (gd (s4 == s4) K)))))
def zj97 {β : Type} (s0 : Int) (s1 : Int) (s2 : Int) (s3 : Int) (s4 : Int) (s5 : Int) (s6 : Int) (s7 : Int) (s8 : Int) (s9 : Int) (s10 : Int) (K : Option β) : Option β :=
(gd (s0 == s0) (gd (s1 == s1) (gd (s2 == s2) (gd (s3 == s3) (gd (s4 == s4) (gd (s5 == s5) (gd (s6 == s6) (gd (s7 == s7) (gd (s8 == s8) (gd (s9 == s9) (gd (s10 == s10) K)))))))))))
def zj98 {β : Type} (s0 : Bool) (s1 : Int) (s2 : Int) (s3 : Int) (s4 : Int) (K : Option β) : Option β :=
(gd (s0 == s0) (gd (s1 == s1) (gd (s2 == s2) (gd (s3 == s3) (gd (s4 == s4) K)))))
def zj99 {β : Type} (N : Nat) (a0 : Int) (a1 : Int) (a2 : Int) (a3 : Int) (k : Int → Int → Int → Int → Bool → Option β) : Option β :=
(cond ((a2 == 66))
((cond ((a3 == 0))
((zj96 false a0 a1 a0 a1
(k a0 a1 a0 a1 false)))
((cond ((a3 == a1))
((zj96 false a0 a1 a0 a1
(k a0 a1 a0 a1 false)))
((cond (((bits .andNot .i64 a3 a1) != 0))
((zj96 false a0 a1 a0 a1
(k a0 a1 a0 a1 false)))
((zj97 a2 a3 a1 0 0 0 0 a0 a1 a0 a1
((zj97 a2 a3 a1 0 0 0 0 a0 a1 a0 a1
((zj97 a2 a3 a1 0 0 0 0 a0 a1 a0 a1
((zj97 a2 a3 a1 0 0 0 0 a0 a1 a0 a1
((zj97 a2 a3 a1 0 0 0 0 a0 a1 a0 a1
((zj97 a2 a3 a1 0 0 0 0 a0 a1 a0 a1
((zj97 a2 a3 a1 0 0 0 0 a0 a1 a0 a1
((cond ((a2 == 65))
((zj98 true ((bits .andNot .i64 a1 a3)) a1 a3 a1
(k ((bits .andNot .i64 a1 a3)) a1 a3 a1 true)))
((zj98 true a0 ((bits .andNot .i64 a1 a3)) a0 a3
(k a0 ((bits .andNot .i64 a1 a3)) a0 a3 true)))))))))))))))))))))))))
((cond ((a3 == 0))
((zj96 false a0 a1 a0 a1
(k a0 a1 a0 a1 false)))
((cond ((a3 == a0))
((zj96 false a0 a1 a0 a1
(k a0 a1 a0 a1 false)))
((cond (((bits .andNot .i64 a3 a0) != 0))
((zj96 false a0 a1 a0 a1
(k a0 a1 a0 a1 false)))
((zj97 a2 a3 a0 0 0 0 0 a0 a1 a0 a1
((zj97 a2 a3 a0 0 0 0 0 a0 a1 a0 a1
((zj97 a2 a3 a0 0 0 0 0 a0 a1 a0 a1
((zj97 a2 a3 a0 0 0 0 0 a0 a1 a0 a1
((zj97 a2 a3 a0 0 0 0 0 a0 a1 a0 a1
((zj97 a2 a3 a0 0 0 0 0 a0 a1 a0 a1
((zj97 a2 a3 a0 0 0 0 0 a0 a1 a0 a1
((cond ((a2 == 65))
((zj98 true ((bits .andNot .i64 a0 a3)) a1 a3 a1
(k ((bits .andNot .i64 a0 a3)) a1 a3 a1 true)))
((zj98 true a0 ((bits .andNot .i64 a0 a3)) a0 a3
(k a0 ((bits .andNot .i64 a0 a3)) a0 a3 true))))))))))))))))))))))))))
/-! (*loop.example/g03403/impl.talk).value -/
def zj100 {β : Type} (N : Nat)  (v0 : Int) (v1 : Int) (v2 : Int) (v3 : Int) (v4 : Int) (v5 : Int) (v6 : Mp) (v7 : Int) (v8 : Int) (rec_ : Int → Int → Int → Int → Int → Int → Mp → Int → Int → Option β) (k0 : Int → Int → Int → Int → Mp → Option β) (k1 : Int → Int → Int → Int → Mp → Option β) : Option β :=
(cond ((decide (v2 < v1)))
((gd ((decide (0 ≤ v5)))
((gd ((decide (0 ≤ (bits .and .i64 v2 (w64 ((shlI .i64 1 v5) - 1))))))
((cond (((bits .and .i64 (shrI .i64 v7 (bits .and .i64 v2 (w64 ((shlI .i64 1 v5) - 1)))) 1) == 0))
(rec_ v0 v1 ((w64 (v2 + 1))) v3 v4 v5 v6 v7 v8)
((gd ((decide (0 ≤ v5)))
((gd ((decide (0 ≤ (shrI .i64 v2 v5))))
((cond (((bits .and .i64 (shrI .i64 v8 (shrI .i64 v2 v5)) 1) == 0))
(rec_ v0 v1 ((w64 (v2 + 1))) v3 v4 v5 v6 v7 v8)
((cond ((decide (v0 ≥ 0)))
(zj63 N v3 v4 v2 fun r9 =>
(cond ((r9 != v0))
(k0 (-1) v3 v4 v5 v6)
(zj63 N v3 v4 v2 fun r10 =>
rec_ r10 v1 ((w64 (v2 + 1))) v3 v4 v5 v6 v7 v8)))
(zj63 N v3 v4 v2 fun r11 =>
rec_ r11 v1 ((w64 (v2 + 1))) v3 v4 v5 v6 v7 v8)))))))))))))))
(k1 v0 v3 v4 v5 v6))
def zj101 {β : Type} (N : Nat)  : Nat → Int → Int → Int → Int → Int → Int → Mp → Int → Int → (Int → Int → Int → Int → Mp → Option β) → (Int → Int → Int → Int → Mp → Option β) → Option β
  | 0, _, _, _, _, _, _, _, _, _, _, _ => none
  | F + 1, v0, v1, v2, v3, v4, v5, v6, v7, v8, k0, k1 => zj100 N  v0 v1 v2 v3 v4 v5 v6 v7 v8 (fun v0 v1 v2 v3 v4 v5 v6 v7 v8 => zj101 N  F v0 v1 v2 v3 v4 v5 v6 v7 v8 k0 k1) k0 k1
def zj102 {β : Type} (N : Nat) (a0 : Int) (a1 : Int) (a2 : Int) (a3 : Int) (a4 : Int) (a5 : Mp) (k0 : Int → Int → Int → Int → Mp → Option β) : Option β :=
zj60 N a2 a3 fun r8 =>
zj101 N  N (-1) r8 0 a2 a3 a4 a5 a0 a1 (fun e12_0 e12_1 e12_2 e12_3 e12_4 =>
k0 e12_0 e12_1 e12_2 e12_3 e12_4) (fun e13_0 e13_1 e13_2 e13_3 e13_4 =>
k0 e13_0 e13_1 e13_2 e13_3 e13_4)
/-! (*loop.example/g03403/impl.talk).need -/
def zj103 {β : Type} (N : Nat) (self : Int → Int → Int → Int → Int → Mp → (Int → Int → Int → Int → Mp → Option β) → Option β)  (v0 : Int) (v1 : Int) (v2 : Int) (v3 : Int) (v4 : Int) (v5 : Int) (v6 : Int) (v7 : Int) (v8 : Mp) (v9 : Int) (v10 : Int) (v11 : List Int) (rec_ : Int → Int → Int → Int → Int → Int → Int → Int → Mp → Int → Int → List Int → Option β) (k0 : Int → Int → Int → Int → Int → Int → Mp → Int → Int → List Int → Option β) : Option β :=
(cond ((decide (v4 < 16)))
(zj99 N v9 v10 v1 v4 fun r22 r23 r24 r25 r26 =>
(cond r26
(self r22 r23 v5 v6 v7 v8 (fun r27_0 r27_1 r27_2 r27_3 r27_4 =>
self r24 r25 r27_1 r27_2 r27_3 r27_4 (fun r28_0 r28_1 r28_2 r28_3 r28_4 =>
rec_ ((mnI v0 (w64 (1 + (mxI r27_0 r28_0))))) v1 v2 v3 ((w64 (v4 + 1))) r28_1 r28_2 r28_3 r28_4 v9 v10 v11)))
(rec_ v0 v1 v2 v3 ((w64 (v4 + 1))) v5 v6 v7 v8 v9 v10 v11)))
(k0 v0 v2 v3 v5 v6 v7 v8 v9 v10 v11))
def zj104 {β : Type} (N : Nat) (self : Int → Int → Int → Int → Int → Mp → (Int → Int → Int → Int → Mp → Option β) → Option β)  : Nat → Int → Int → Int → Int → Int → Int → Int → Int → Mp → Int → Int → List Int → (Int → Int → Int → Int → Int → Int → Mp → Int → Int → List Int → Option β) → Option β
  | 0, _, _, _, _, _, _, _, _, _, _, _, _, _ => none
  | F + 1, v0, v1, v2, v3, v4, v5, v6, v7, v8, v9, v10, v11, k0 => zj103 N self  v0 v1 v2 v3 v4 v5 v6 v7 v8 v9 v10 v11 (fun v0 v1 v2 v3 v4 v5 v6 v7 v8 v9 v10 v11 => zj104 N self  F v0 v1 v2 v3 v4 v5 v6 v7 v8 v9 v10 v11 k0) k0
def zj105 {β : Type} (N : Nat) (self : Int → Int → Int → Int → Int → Mp → (Int → Int → Int → Int → Mp → Option β) → Option β)  (v0 : Int) (v1 : Int) (v2 : Int) (v3 : Int) (v4 : Int) (v5 : Int) (v6 : Mp) (v7 : Int) (v8 : Int) (v9 : List Int) (rec_ : Int → Int → Int → Int → Int → Int → Mp → Int → Int → List Int → Option β) (k0 : Int → Int → Int → Int → Mp → Int → Int → Option β) : Option β :=
(cond ((decide (v2 < v1)))
((gd ((decide (0 ≤ v2)))
((gd ((decide (v2 < (v9.length : Int))))
(zj104 N self  N v0 ((rd 0 v9 v2)) v1 v2 0 v3 v4 v5 v6 v7 v8 v9 (fun e29_0 e29_1 e29_2 e29_3 e29_4 e29_5 e29_6 e29_7 e29_8 e29_9 =>
rec_ e29_0 e29_1 ((w64 (e29_2 + 1))) e29_3 e29_4 e29_5 e29_6 e29_7 e29_8 e29_9))))))
(k0 v0 v3 v4 v5 v6 v7 v8))
def zj106 {β : Type} (N : Nat) (self : Int → Int → Int → Int → Int → Mp → (Int → Int → Int → Int → Mp → Option β) → Option β)  : Nat → Int → Int → Int → Int → Int → Int → Mp → Int → Int → List Int → (Int → Int → Int → Int → Mp → Int → Int → Option β) → Option β
  | 0, _, _, _, _, _, _, _, _, _, _, _ => none
  | F + 1, v0, v1, v2, v3, v4, v5, v6, v7, v8, v9, k0 => zj105 N self  v0 v1 v2 v3 v4 v5 v6 v7 v8 v9 (fun v0 v1 v2 v3 v4 v5 v6 v7 v8 v9 => zj106 N self  F v0 v1 v2 v3 v4 v5 v6 v7 v8 v9 k0) k0
def zj107 {β : Type} (N : Nat) (self : Int → Int → Int → Int → Int → Mp → (Int → Int → Int → Int → Mp → Option β) → Option β) (a0 : Int) (a1 : Int) (a2 : Int) (a3 : Int) (a4 : Int) (a5 : Mp) (k0 : Int → Int → Int → Int → Mp → Option β) : Option β :=
(cond ((hasM ⟨true, false⟩ a5 a0 a1))
(k0 ((getM ⟨true, false⟩ a5 a0 a1)) a2 a3 a4 a5)
(zj102 N a0 a1 a2 a3 a4 a5 (fun r21_0 r21_1 r21_2 r21_3 r21_4 =>
(cond ((decide (r21_0 < 0)))
(zj106 N self  N 4 (((((([] : List Int) ++ [65]) ++ [66])).length : Int)) 0 r21_1 r21_2 r21_3 r21_4 a0 a1 (((([] : List Int) ++ [65]) ++ [66])) (fun e30_0 e30_1 e30_2 e30_3 e30_4 e30_5 e30_6 =>
k0 e30_0 e30_1 e30_2 e30_3 ((putM ⟨true, false⟩ e30_4 e30_5 e30_6 e30_0))))
(k0 0 r21_1 r21_2 r21_3 ((putM ⟨true, false⟩ r21_4 a0 a1 0)))))))
def zj108 {β : Type} (N : Nat) : Nat → Int → Int → Int → Int → Int → Mp → (Int → Int → Int → Int → Mp → Option β) → Option β
  | 0, _, _, _, _, _, _, _ => none
  | F + 1, a0, a1, a2, a3, a4, a5, k0 => zj107 N (zj108 N F) a0 a1 a2 a3 a4 a5 k0
def zj109 {β : Type} (N : Nat) (a0 : Int) (a1 : Int) (a2 : Int) (a3 : Int) (a4 : Int) (a5 : Mp) (k0 : Int → Int → Int → Int → Mp → Option β) : Option β := zj108 N N a0 a1 a2 a3 a4 a5 k0
/-! (*loop.example/g03403/impl.talk).text -/
def zj110 {β : Type} (s0 : ByteArray) (s1 : Int) (s2 : Int) (s3 : Int) (s4 : Mp) (u0 : ByteArray) (u1 : Int) (u2 : Int) (u3 : Int) (u4 : Mp) (K : Option β) : Option β :=
(gd (decide (s0 = u0)) (gd (s1 == u1) (gd (s2 == u2) (gd (s3 == u3) (gd (s4 == u4) K)))))
def zj111 {β : Type} (N : Nat) (self : Int → Int → Int → Int → Int → Mp → (ByteArray → Int → Int → Int → Mp → Option β) → Option β)  (v0 : Int) (v1 : Int) (v2 : Int) (v3 : Int) (v4 : Int) (v5 : Int) (v6 : Int) (v7 : Mp) (v8 : Int) (v9 : Int) (v10 : List Int) (rec_ : Int → Int → Int → Int → Int → Int → Int → Mp → Int → Int → List Int → Option β) (k0 : ByteArray → Int → Int → Int → Mp → Option β) (k1 : Int → Int → Int → Int → Int → Mp → Int → Int → List Int → Option β) : Option β :=
(cond ((decide (v3 < 16)))
(zj99 N v8 v9 v0 v3 fun r10 r11 r12 r13 r14 =>
(cond r14
(zj109 N r10 r11 v4 v5 v6 v7 (fun r15_0 r15_1 r15_2 r15_3 r15_4 =>
zj109 N v8 v9 r15_1 r15_2 r15_3 r15_4 (fun r16_0 r16_1 r16_2 r16_3 r16_4 =>
(cond ((decide (r15_0 < r16_0)))
(zj109 N r12 r13 r16_1 r16_2 r16_3 r16_4 (fun r17_0 r17_1 r17_2 r17_3 r17_4 =>
zj109 N v8 v9 r17_1 r17_2 r17_3 r17_4 (fun r18_0 r18_1 r18_2 r18_3 r18_4 =>
(cond ((decide (r17_0 < r18_0)))
((gd ((decide (0 ≤ v3)))
((gd ((decide (v3 < (((strOf [48, 49, 50, 51, 52, 53, 54, 55, 56, 57, 97, 98, 99, 100, 101, 102])).size : Int))))
(self r10 r11 r18_1 r18_2 r18_3 r18_4 (fun r19_0 r19_1 r19_2 r19_3 r19_4 =>
(gd ((decide (((strOf (((([] : List Int) ++ [v0]) ++ [(bt ((strOf [48, 49, 50, 51, 52, 53, 54, 55, 56, 57, 97, 98, 99, 100, 101, 102])) v3)])))).size + r19_0.size ≤ 9223372036854775807)))
(self r12 r13 r19_1 r19_2 r19_3 r19_4 (fun r20_0 r20_1 r20_2 r20_3 r20_4 =>
(gd ((decide ((((strOf (((([] : List Int) ++ [v0]) ++ [(bt ((strOf [48, 49, 50, 51, 52, 53, 54, 55, 56, 57, 97, 98, 99, 100, 101, 102])) v3)]))) ++ r19_0)).size + r20_0.size ≤ 9223372036854775807)))
(self r10 r11 r18_1 r18_2 r18_3 r18_4 (fun r21_0 r21_1 r21_2 r21_3 r21_4 =>
(gd ((decide (((strOf (((([] : List Int) ++ [v0]) ++ [(bt ((strOf [48, 49, 50, 51, 52, 53, 54, 55, 56, 57, 97, 98, 99, 100, 101, 102])) v3)])))).size + r21_0.size ≤ 9223372036854775807)))
(self r12 r13 r21_1 r21_2 r21_3 r21_4 (fun r22_0 r22_1 r22_2 r22_3 r22_4 =>
(gd ((decide ((((strOf (((([] : List Int) ++ [v0]) ++ [(bt ((strOf [48, 49, 50, 51, 52, 53, 54, 55, 56, 57, 97, 98, 99, 100, 101, 102])) v3)]))) ++ r21_0)).size + r22_0.size ≤ 9223372036854775807)))
(self r12 r13 r21_1 r21_2 r21_3 r21_4 (fun r23_0 r23_1 r23_2 r23_3 r23_4 =>
(gd ((decide (((strOf (((([] : List Int) ++ [v0]) ++ [(bt ((strOf [48, 49, 50, 51, 52, 53, 54, 55, 56, 57, 97, 98, 99, 100, 101, 102])) v3)])))).size + r21_0.size ≤ 9223372036854775807)))
((gd ((decide ((((strOf (((([] : List Int) ++ [v0]) ++ [(bt ((strOf [48, 49, 50, 51, 52, 53, 54, 55, 56, 57, 97, 98, 99, 100, 101, 102])) v3)]))) ++ r21_0)).size + r23_0.size ≤ 9223372036854775807)))
((zj110 ((((strOf (((([] : List Int) ++ [v0]) ++ [(bt ((strOf [48, 49, 50, 51, 52, 53, 54, 55, 56, 57, 97, 98, 99, 100, 101, 102])) v3)]))) ++ r21_0) ++ r22_0)) r22_1 r22_2 r22_3 r22_4 ((((strOf (((([] : List Int) ++ [v0]) ++ [(bt ((strOf [48, 49, 50, 51, 52, 53, 54, 55, 56, 57, 97, 98, 99, 100, 101, 102])) v3)]))) ++ r21_0) ++ r23_0)) r23_1 r23_2 r23_3 r23_4
((zj110 ((((strOf (((([] : List Int) ++ [v0]) ++ [(bt ((strOf [48, 49, 50, 51, 52, 53, 54, 55, 56, 57, 97, 98, 99, 100, 101, 102])) v3)]))) ++ r19_0) ++ r20_0)) r20_1 r20_2 r20_3 r20_4 ((((strOf (((([] : List Int) ++ [v0]) ++ [(bt ((strOf [48, 49, 50, 51, 52, 53, 54, 55, 56, 57, 97, 98, 99, 100, 101, 102])) v3)]))) ++ r21_0) ++ r22_0)) r22_1 r22_2 r22_3 r22_4
(k0 ((((strOf (((([] : List Int) ++ [v0]) ++ [(bt ((strOf [48, 49, 50, 51, 52, 53, 54, 55, 56, 57, 97, 98, 99, 100, 101, 102])) v3)]))) ++ r19_0) ++ r20_0)) r20_1 r20_2 r20_3 r20_4))))))))))))))))))))))))))
(rec_ v0 v1 v2 ((w64 (v3 + 1))) r18_1 r18_2 r18_3 r18_4 v8 v9 v10)))))
(rec_ v0 v1 v2 ((w64 (v3 + 1))) r16_1 r16_2 r16_3 r16_4 v8 v9 v10)))))
(rec_ v0 v1 v2 ((w64 (v3 + 1))) v4 v5 v6 v7 v8 v9 v10)))
(k1 v1 v2 v4 v5 v6 v7 v8 v9 v10))
def zj112 {β : Type} (N : Nat) (self : Int → Int → Int → Int → Int → Mp → (ByteArray → Int → Int → Int → Mp → Option β) → Option β)  : Nat → Int → Int → Int → Int → Int → Int → Int → Mp → Int → Int → List Int → (ByteArray → Int → Int → Int → Mp → Option β) → (Int → Int → Int → Int → Int → Mp → Int → Int → List Int → Option β) → Option β
  | 0, _, _, _, _, _, _, _, _, _, _, _, _, _ => none
  | F + 1, v0, v1, v2, v3, v4, v5, v6, v7, v8, v9, v10, k0, k1 => zj111 N self  v0 v1 v2 v3 v4 v5 v6 v7 v8 v9 v10 (fun v0 v1 v2 v3 v4 v5 v6 v7 v8 v9 v10 => zj112 N self  F v0 v1 v2 v3 v4 v5 v6 v7 v8 v9 v10 k0 k1) k0 k1
def zj113 {β : Type} (N : Nat) (self : Int → Int → Int → Int → Int → Mp → (ByteArray → Int → Int → Int → Mp → Option β) → Option β)  (v0 : Int) (v1 : Int) (v2 : Int) (v3 : Int) (v4 : Int) (v5 : Mp) (v6 : Int) (v7 : Int) (v8 : List Int) (rec_ : Int → Int → Int → Int → Int → Mp → Int → Int → List Int → Option β) (k0 : ByteArray → Int → Int → Int → Mp → Option β) (k1 : Int → Int → Int → Mp → Option β) : Option β :=
(cond ((decide (v1 < v0)))
((gd ((decide (0 ≤ v1)))
((gd ((decide (v1 < (v8.length : Int))))
(zj112 N self  N ((rd 0 v8 v1)) v0 v1 0 v2 v3 v4 v5 v6 v7 v8 (fun e24_0 e24_1 e24_2 e24_3 e24_4 =>
k0 e24_0 e24_1 e24_2 e24_3 e24_4) (fun e25_0 e25_1 e25_2 e25_3 e25_4 e25_5 e25_6 e25_7 e25_8 =>
rec_ e25_0 ((w64 (e25_1 + 1))) e25_2 e25_3 e25_4 e25_5 e25_6 e25_7 e25_8))))))
(k1 v2 v3 v4 v5))
def zj114 {β : Type} (N : Nat) (self : Int → Int → Int → Int → Int → Mp → (ByteArray → Int → Int → Int → Mp → Option β) → Option β)  : Nat → Int → Int → Int → Int → Int → Mp → Int → Int → List Int → (ByteArray → Int → Int → Int → Mp → Option β) → (Int → Int → Int → Mp → Option β) → Option β
  | 0, _, _, _, _, _, _, _, _, _, _, _ => none
  | F + 1, v0, v1, v2, v3, v4, v5, v6, v7, v8, k0, k1 => zj113 N self  v0 v1 v2 v3 v4 v5 v6 v7 v8 (fun v0 v1 v2 v3 v4 v5 v6 v7 v8 => zj114 N self  F v0 v1 v2 v3 v4 v5 v6 v7 v8 k0 k1) k0 k1
def zj115 {β : Type} (N : Nat) (self : Int → Int → Int → Int → Int → Mp → (ByteArray → Int → Int → Int → Mp → Option β) → Option β) (a0 : Int) (a1 : Int) (a2 : Int) (a3 : Int) (a4 : Int) (a5 : Mp) (k0 : ByteArray → Int → Int → Int → Mp → Option β) : Option β :=
zj102 N a0 a1 a2 a3 a4 a5 (fun r8_0 r8_1 r8_2 r8_3 r8_4 =>
(cond ((decide (r8_0 ≥ 0)))
(zj82 N r8_0 fun r9 =>
k0 r9 r8_1 r8_2 r8_3 r8_4)
(zj114 N self  N (((((([] : List Int) ++ [65]) ++ [66])).length : Int)) 0 r8_1 r8_2 r8_3 r8_4 a0 a1 (((([] : List Int) ++ [65]) ++ [66])) (fun e26_0 e26_1 e26_2 e26_3 e26_4 =>
k0 e26_0 e26_1 e26_2 e26_3 e26_4) (fun e27_0 e27_1 e27_2 e27_3 =>
k0 ByteArray.empty e27_0 e27_1 e27_2 e27_3))))
def zj116 {β : Type} (N : Nat) : Nat → Int → Int → Int → Int → Int → Mp → (ByteArray → Int → Int → Int → Mp → Option β) → Option β
  | 0, _, _, _, _, _, _, _ => none
  | F + 1, a0, a1, a2, a3, a4, a5, k0 => zj115 N (zj116 N F) a0 a1 a2 a3 a4 a5 k0
def zj117 {β : Type} (N : Nat) (a0 : Int) (a1 : Int) (a2 : Int) (a3 : Int) (a4 : Int) (a5 : Mp) (k0 : ByteArray → Int → Int → Int → Mp → Option β) : Option β := zj116 N N a0 a1 a2 a3 a4 a5 k0
/-! loop.example/g03403/impl.ProtocolOf -/
def zj118 {β : Type} (N : Nat) (a0 : Int) (a1 : Int) (a2 : Int) (k : ByteArray → Bool → Option β) : Option β :=
zj95 N a0 a1 a2 (fun r5_0 r5_1 =>
k ByteArray.empty false) (fun r6_0 r6_1 r6_3 r6_4 r6_5 r6_6 =>
zj117 N r6_0 r6_1 r6_3 r6_4 r6_5 r6_6 (fun r7_0 r7_1 r7_2 r7_3 r7_4 =>
k r7_0 true))
/-! loop.example/g03403/impl.LeastBits -/
def zj119 {β : Type} (N : Nat) (a0 : Int) (a1 : Int) (a2 : Int) (k : Int → Option β) : Option β :=
zj95 N a0 a1 a2 (fun r4_0 r4_1 =>
k (-1)) (fun r5_0 r5_1 r5_3 r5_4 r5_5 r5_6 =>
zj109 N r5_0 r5_1 r5_3 r5_4 r5_5 r5_6 (fun r6_0 r6_1 r6_2 r6_3 r6_4 =>
k r6_0))
/-! (*loop.example/g03403/impl.line).put -/
def zj120 {β : Type} (N : Nat) (a0 : List ByteArray) (a1 : List ByteArray) (k0 : List ByteArray → List ByteArray → Option β) : Option β :=
(gd ((decide ((a1.length + a0.length) * 16 ≤ 140737488355328)))
(k0 a0 ((a1 ++ a0))))
/-! (*loop.example/g03403/impl.line).text -/
def zj121 {β : Type} (N : Nat) (a0 : List ByteArray) (k0 : ByteArray → List ByteArray → Option β) : Option β :=
strings_Join N a0 ((strOf [32])) fun r23 =>
k0 r23 a0
/-! loop.example/g03403/impl.SplitLine -/
def zj122 {β : Type} (N : Nat) (a0 : Int) (a1 : Int) (a2 : Int) (k : ByteArray → Option β) : Option β :=
zj62 N a0 a1 a2 fun r4 =>
(cond (!r4)
(k ByteArray.empty)
((cond ((decide (a0 > 4)))
(k ByteArray.empty)
(zj66 N a0 a1 a2 fun r5 =>
zj81 N a0 a1 a2 0 fun r6 r7 =>
zj81 N a0 a1 a2 1 fun r8 r9 =>
zj85 N r5 fun r10 =>
zj91 N r5 fun r11 =>
zj82 N r11 fun r12 =>
zj94 N r5 fun r13 =>
zj82 N r13 fun r14 =>
zj120 N ((((((((([] : List ByteArray) ++ [(strOf [115, 112, 108, 105, 116])]) ++ [(strOf [114, 111, 119, 115])]) ++ [r10]) ++ [(strOf [114, 97, 110, 107])]) ++ [r12]) ++ [(strOf [100, 105, 102, 102, 101, 114, 101, 110, 116])]) ++ [r14])) (([] : List ByteArray)) (fun r15_0 r15_1 =>
zj85 N (((([] : List Int) ++ [(r6.length : Int)]) ++ [(r8.length : Int)])) fun r16 =>
zj120 N (((([] : List ByteArray) ++ [(strOf [102, 111, 111, 108, 105, 110, 103])]) ++ [r16])) r15_1 (fun r17_0 r17_1 =>
zj118 N a0 a1 a2 fun r18 r19 =>
(cond r19
(zj119 N a0 a1 a2 fun r20 =>
zj82 N r20 fun r21 =>
zj120 N (((((([] : List ByteArray) ++ [(strOf [98, 105, 116, 115])]) ++ [r21]) ++ [(strOf [112, 114, 111, 116, 111, 99, 111, 108])]) ++ [r18])) r17_1 (fun r22_0 r22_1 =>
zj121 N r22_1 (fun r23_0 r23_1 =>
k r23_0)))
(zj121 N r17_1 (fun r24_0 r24_1 =>
k r24_0)))))))))
/-! loop.example/g03403/laws.FnExactSplitLine -/
def laws_FnExactSplitLine {β : Type} (N : Nat) (a0 : Int) (a1 : Int) (a2 : Int) (k : Bool → Option β) : Option β :=
zj0 N a0 a1 fun r4 r5 =>
zj58 N r4 r5 a2 fun r6 =>
zj0 N a0 a1 fun r7 r8 =>
zj122 N r7 r8 a2 fun r9 =>
(cond ((!(r9.toList == r6.toList)))
(k false)
(k true))
end Go.Proofs.YtfdggelojmofmaaDoor
