/- The texts of the functions that the claims reach: plain Lean, no program. -/
import Derived.Test.YtddflpokemgnmaaDoorRvLib
namespace Go.Proofs.YtddflpokemgnmaaDoor
open Go.Rv
set_option linter.unusedVariables false
set_option maxRecDepth 100000
abbrev O := Option
variable {β : Type}
def zj0 (N : Nat) (a0 : List Int) (k : Bool → Option β) : Option β :=
k ((decide ((a0.length : Int) > 1048576)))
def zj1 (N : Nat)  (v0 : List Int) (v1 : Int) (v2 : Int) (rec_ : List Int → Int → Int → Option β) (k0 : List Int → Int → Option β) : Option β :=
(cond ((decide (v2 < (v0.length : Int))))
((cond ((decide (v2 < 4000)))
((gd ((decide (0 ≤ v2)))
((gd ((decide (v2 < (v0.length : Int))))
(rec_ v0 ((bits .and .i64 (w64 ((w64 ((w64 (v1 * 131)) + (w64 ((rd 0 v0 v2))))) + 7)) 1073741823)) ((w64 (v2 + 1))))))))
(k0 v0 v1)))
(k0 v0 v1))
def zj2 (N : Nat)  : Nat → List Int → Int → Int → (List Int → Int → Option β) → Option β
  | 0, _, _, _, _ => none
  | F + 1, v0, v1, v2, k0 => zj1 N  v0 v1 v2 (fun v0 v1 v2 => zj2 N  F v0 v1 v2 k0) k0
def zj3 (N : Nat) (a0 : List Int) (k0 : List Int → Int → Int → Option β) : Option β :=
zj2 N  N a0 ((w64 (10101 + (a0.length : Int)))) 0 (fun e4_0 e4_1 =>
k0 e4_0 0 e4_1)
def zj4 (N : Nat) (a0 : List Int) (a1 : Int) (a2 : Int) (k0 : Int → List Int → Int → Int → Option β) : Option β :=
(cond ((decide (a1 < (a0.length : Int))))
((gd ((decide (0 ≤ a1)))
((gd ((decide (a1 < (a0.length : Int))))
(k0 ((bits .and .i64 (w64 ((bits .and .i64 (bits .xor .i64 (shrI .i64 (w64 ((w64 (a2 * 6364136223846793005)) + 1442695040888963407)) 33) (shrI .i64 (w64 ((w64 (a2 * 6364136223846793005)) + 1442695040888963407)) 45)) 255) + (w64 ((rd 0 a0 a1))))) 255)) a0 ((w64 (a1 + 1))) ((w64 ((w64 (a2 * 6364136223846793005)) + 1442695040888963407))))))))
(k0 ((bits .and .i64 (bits .xor .i64 (shrI .i64 (w64 ((w64 (a2 * 6364136223846793005)) + 1442695040888963407)) 33) (shrI .i64 (w64 ((w64 (a2 * 6364136223846793005)) + 1442695040888963407)) 45)) 255)) a0 a1 ((w64 ((w64 (a2 * 6364136223846793005)) + 1442695040888963407)))))
def zj5 (N : Nat) (a0 : Int) (a1 : List Int) (a2 : Int) (a3 : Int) (k0 : Int → List Int → Int → Int → Option β) : Option β :=
(cond ((decide (a0 ≤ 0)))
(k0 0 a1 a2 a3)
((cond ((decide (a0 ≤ 256)))
(zj4 N a1 a2 a3 (fun r6_0 r6_1 r6_2 r6_3 =>
(gd ((a0 != 0))
(k0 ((remI r6_0 a0)) r6_1 r6_2 r6_3))))
(zj4 N a1 a2 a3 (fun r7_0 r7_1 r7_2 r7_3 =>
zj4 N r7_1 r7_2 r7_3 (fun r8_0 r8_1 r8_2 r8_3 =>
zj4 N r8_1 r8_2 r8_3 (fun r9_0 r9_1 r9_2 r9_3 =>
zj4 N r9_1 r9_2 r9_3 (fun r10_0 r10_1 r10_2 r10_3 =>
(gd ((a0 != 0))
(k0 ((remI (w64 ((w64 ((w64 ((w64 (r7_0 * 16777216)) + (w64 (r8_0 * 65536)))) + (w64 (r9_0 * 256)))) + r10_0)) a0)) r10_1 r10_2 r10_3))))))))))
def zj6 (N : Nat)  (v0 : Int) (v1 : Int) (v2 : Int) (v3 : Int) (rec_ : Int → Int → Int → Int → Option β) (k0 : Int → Option β) : Option β :=
(gd ((decide (0 ≤ v0)))
((cond ((decide (v3 < (shlI .i64 1 v0))))
((gd ((decide (0 ≤ v1)))
((cond (((bits .and .i64 (shrI .i64 v3 v1) 1) == 1))
((gd ((decide (0 ≤ v3)))
(rec_ v0 v1 ((bits .or .i64 v2 (shlI .i64 1 v3))) ((w64 (v3 + 1))))))
(rec_ v0 v1 v2 ((w64 (v3 + 1))))))))
(k0 v2))))
def zj7 (N : Nat)  : Nat → Int → Int → Int → Int → (Int → Option β) → Option β
  | 0, _, _, _, _, _ => none
  | F + 1, v0, v1, v2, v3, k0 => zj6 N  v0 v1 v2 v3 (fun v0 v1 v2 v3 => zj7 N  F v0 v1 v2 v3 k0) k0
def zj8 (N : Nat) (a0 : Int) (a1 : Int) (k : Int → Option β) : Option β :=
zj7 N  N a0 a1 0 0 (fun e3_0 =>
k e3_0)
def zj9 (N : Nat) (a0 : Int) (k : Int → Option β) : Option β :=
(gd ((decide (0 ≤ a0)))
((gd ((decide (0 ≤ (shlI .u64 1 a0))))
(k ((w64 ((shlI .i64 1 (shlI .u64 1 a0)) - 1)))))))
def zj10 (N : Nat)  (v0 : Int) (v1 : Int) (rec_ : Int → Int → Option β) (k0 : Int → Option β) : Option β :=
(cond ((decide (v1 > 0)))
(rec_ ((w64 (v0 + (bits .and .i64 v1 1)))) ((shrI .i64 v1 1)))
(k0 v0))
def zj11 (N : Nat)  : Nat → Int → Int → (Int → Option β) → Option β
  | 0, _, _, _ => none
  | F + 1, v0, v1, k0 => zj10 N  v0 v1 (fun v0 v1 => zj11 N  F v0 v1 k0) k0
def zj12 (N : Nat) (a0 : Int) (k : Int → Option β) : Option β :=
zj11 N  N 0 a0 (fun e2_0 =>
k e2_0)
def zj13 (N : Nat)  (v0 : Int) (v1 : Int) (v2 : Int) (v3 : List Int) (v4 : Int) (v5 : Int) (v6 : Int) (v7 : Int) (rec_ : Int → Int → Int → List Int → Int → Int → Int → Int → Option β) (k0 : Int → Int → List Int → Int → Int → Int → Int → Option β) : Option β :=
(gd ((decide (0 ≤ v0)))
((cond ((decide (v2 < (shlI .i64 1 v0))))
(zj12 N v2 fun r24 =>
(cond ((decide ((w64 (2 * r24)) > v0)))
((gd ((decide (0 ≤ v2)))
(rec_ v0 ((bits .or .i64 v1 (shlI .i64 1 v2))) ((w64 (v2 + 1))) v3 v4 v5 v6 v7)))
(rec_ v0 v1 ((w64 (v2 + 1))) v3 v4 v5 v6 v7)))
(k0 v0 v1 v3 v4 v5 v6 v7))))
def zj14 (N : Nat)  : Nat → Int → Int → Int → List Int → Int → Int → Int → Int → (Int → Int → List Int → Int → Int → Int → Int → Option β) → Option β
  | 0, _, _, _, _, _, _, _, _, _ => none
  | F + 1, v0, v1, v2, v3, v4, v5, v6, v7, k0 => zj13 N  v0 v1 v2 v3 v4 v5 v6 v7 (fun v0 v1 v2 v3 v4 v5 v6 v7 => zj14 N  F v0 v1 v2 v3 v4 v5 v6 v7 k0) k0
def zj15 (N : Nat)  (v0 : Int) (v1 : Int) (v2 : Int) (v3 : List Int) (v4 : Int) (v5 : Int) (v6 : Int) (v7 : Int) (rec_ : Int → Int → Int → List Int → Int → Int → Int → Int → Option β) (k0 : Int → Int → List Int → Int → Int → Int → Int → Option β) : Option β :=
(gd ((decide (0 ≤ v0)))
((cond ((decide (v2 < (shlI .i64 1 v0))))
(zj12 N v2 fun r28 =>
(cond (((remI r28 2) == 1))
((gd ((decide (0 ≤ v2)))
(rec_ v0 ((bits .or .i64 v1 (shlI .i64 1 v2))) ((w64 (v2 + 1))) v3 v4 v5 v6 v7)))
(rec_ v0 v1 ((w64 (v2 + 1))) v3 v4 v5 v6 v7)))
(k0 v0 v1 v3 v4 v5 v6 v7))))
def zj16 (N : Nat)  : Nat → Int → Int → Int → List Int → Int → Int → Int → Int → (Int → Int → List Int → Int → Int → Int → Int → Option β) → Option β
  | 0, _, _, _, _, _, _, _, _, _ => none
  | F + 1, v0, v1, v2, v3, v4, v5, v6, v7, k0 => zj15 N  v0 v1 v2 v3 v4 v5 v6 v7 (fun v0 v1 v2 v3 v4 v5 v6 v7 => zj16 N  F v0 v1 v2 v3 v4 v5 v6 v7 k0) k0
def zj17 (N : Nat)  (v0 : Int) (v1 : Int) (v2 : Int) (v3 : Int) (v4 : List Int) (v5 : Int) (v6 : Int) (v7 : Int) (v8 : Int) (rec_ : Int → Int → Int → Int → List Int → Int → Int → Int → Int → Option β) (k0 : Int → Int → List Int → Int → Int → Int → Int → Option β) : Option β :=
(gd ((decide (0 ≤ v0)))
((cond ((decide (v3 < (shlI .i64 1 v0))))
((cond (((bits .and .i64 v3 v2) == v2))
((gd ((decide (0 ≤ v3)))
(rec_ v0 ((bits .or .i64 v1 (shlI .i64 1 v3))) v2 ((w64 (v3 + 1))) v4 v5 v6 v7 v8)))
(rec_ v0 v1 v2 ((w64 (v3 + 1))) v4 v5 v6 v7 v8)))
(k0 v0 v1 v4 v5 v6 v7 v8))))
def zj18 (N : Nat)  : Nat → Int → Int → Int → Int → List Int → Int → Int → Int → Int → (Int → Int → List Int → Int → Int → Int → Int → Option β) → Option β
  | 0, _, _, _, _, _, _, _, _, _, _ => none
  | F + 1, v0, v1, v2, v3, v4, v5, v6, v7, v8, k0 => zj17 N  v0 v1 v2 v3 v4 v5 v6 v7 v8 (fun v0 v1 v2 v3 v4 v5 v6 v7 v8 => zj18 N  F v0 v1 v2 v3 v4 v5 v6 v7 v8 k0) k0
def zj19 (N : Nat)  (v0 : Int) (v1 : Int) (v2 : Int) (v3 : List Int) (v4 : Int) (v5 : Int) (v6 : Int) (v7 : Int) (rec_ : Int → Int → Int → List Int → Int → Int → Int → Int → Option β) (k0 : Int → Int → List Int → Int → Int → Int → Int → Option β) : Option β :=
(gd ((decide (0 ≤ v0)))
((cond ((decide (v2 < (shlI .i64 1 v0))))
(zj5 N 2 v3 v4 v5 (fun r36_0 r36_1 r36_2 r36_3 =>
(gd ((decide (0 ≤ v2)))
(rec_ v0 ((bits .or .i64 v1 (shlI .i64 r36_0 v2))) ((w64 (v2 + 1))) r36_1 r36_2 r36_3 v6 v7))))
(k0 v0 v1 v3 v4 v5 v6 v7))))
def zj20 (N : Nat)  : Nat → Int → Int → Int → List Int → Int → Int → Int → Int → (Int → Int → List Int → Int → Int → Int → Int → Option β) → Option β
  | 0, _, _, _, _, _, _, _, _, _ => none
  | F + 1, v0, v1, v2, v3, v4, v5, v6, v7, k0 => zj19 N  v0 v1 v2 v3 v4 v5 v6 v7 (fun v0 v1 v2 v3 v4 v5 v6 v7 => zj20 N  F v0 v1 v2 v3 v4 v5 v6 v7 k0) k0
def zj21 (N : Nat) (a0 : Int) (a1 : List Int) (a2 : Int) (a3 : Int) (k0 : Int → Int → List Int → Int → Int → Option β) : Option β :=
zj5 N 6 a1 a2 a3 (fun r19_0 r19_1 r19_2 r19_3 =>
(cond ((r19_0 == 0))
(zj5 N ((mxI 1 a0)) r19_1 r19_2 r19_3 (fun r20_0 r20_1 r20_2 r20_3 =>
zj8 N a0 r20_0 fun r21 =>
(cond ((a0 == 0))
(zj9 N a0 fun r22 =>
k0 a0 ((bits .and .i64 (bits .and .i64 r21 1) r22)) r20_1 r20_2 r20_3)
(zj9 N a0 fun r23 =>
k0 a0 ((bits .and .i64 r21 r23)) r20_1 r20_2 r20_3))))
((cond ((r19_0 == 1))
(zj14 N  N a0 0 0 r19_1 r19_2 r19_3 0 0 (fun e25_0 e25_1 e25_2 e25_3 e25_4 e25_5 e25_6 =>
(cond ((e25_0 == 0))
(zj9 N e25_0 fun r26 =>
k0 e25_0 ((bits .and .i64 (bits .and .i64 e25_1 1) r26)) e25_2 e25_3 e25_4)
(zj9 N e25_0 fun r27 =>
k0 e25_0 ((bits .and .i64 e25_1 r27)) e25_2 e25_3 e25_4))))
((cond ((r19_0 == 2))
(zj16 N  N a0 0 0 r19_1 r19_2 r19_3 0 0 (fun e29_0 e29_1 e29_2 e29_3 e29_4 e29_5 e29_6 =>
(cond ((e29_0 == 0))
(zj9 N e29_0 fun r30 =>
k0 e29_0 ((bits .and .i64 (bits .and .i64 e29_1 1) r30)) e29_2 e29_3 e29_4)
(zj9 N e29_0 fun r31 =>
k0 e29_0 ((bits .and .i64 e29_1 r31)) e29_2 e29_3 e29_4))))
((cond ((r19_0 == 3))
((gd ((decide (0 ≤ a0)))
(zj5 N ((shlI .i64 1 a0)) r19_1 r19_2 r19_3 (fun r32_0 r32_1 r32_2 r32_3 =>
zj18 N  N a0 0 r32_0 0 r32_1 r32_2 r32_3 0 0 (fun e33_0 e33_1 e33_2 e33_3 e33_4 e33_5 e33_6 =>
(cond ((e33_0 == 0))
(zj9 N e33_0 fun r34 =>
k0 e33_0 ((bits .and .i64 (bits .and .i64 e33_1 1) r34)) e33_2 e33_3 e33_4)
(zj9 N e33_0 fun r35 =>
k0 e33_0 ((bits .and .i64 e33_1 r35)) e33_2 e33_3 e33_4)))))))
(zj20 N  N a0 0 0 r19_1 r19_2 r19_3 0 0 (fun e37_0 e37_1 e37_2 e37_3 e37_4 e37_5 e37_6 =>
(cond ((e37_0 == 0))
(zj9 N e37_0 fun r38 =>
k0 e37_0 ((bits .and .i64 (bits .and .i64 e37_1 1) r38)) e37_2 e37_3 e37_4)
(zj9 N e37_0 fun r39 =>
k0 e37_0 ((bits .and .i64 e37_1 r39)) e37_2 e37_3 e37_4))))))))))))
def zj22 (N : Nat) (a0 : List Int) (a1 : Int) (a2 : Int) (a3 : List Int) (k0 : Int → List Int → Int → Int → List Int → Option β) : Option β :=
zj5 N ((a3.length : Int)) a0 a1 a2 (fun r16_0 r16_1 r16_2 r16_3 =>
(gd ((decide (0 ≤ r16_0)))
((gd ((decide (r16_0 < (a3.length : Int))))
(k0 ((rd 0 a3 r16_0)) r16_1 r16_2 r16_3 a3)))))
def zj23 (N : Nat) (a0 : List Int) (a1 : Int) (a2 : Int) (k0 : Int → Int → List Int → Int → Int → Option β) : Option β :=
zj5 N 5 a0 a1 a2 (fun r5_0 r5_1 r5_2 r5_3 =>
zj21 N r5_0 r5_1 r5_2 r5_3 (fun r6_0 r6_1 r6_2 r6_3 r6_4 =>
zj5 N 14 r6_2 r6_3 r6_4 (fun r7_0 r7_1 r7_2 r7_3 =>
(cond ((r7_0 == 0))
(zj22 N r7_1 r7_2 r7_3 ((((((([] : List Int) ++ [(-1)]) ++ [6]) ++ [5]) ++ [0]) ++ [9223372036854775807])) (fun r8_0 r8_1 r8_2 r8_3 r8_4 =>
k0 r8_0 r6_1 r8_1 r8_2 r8_3))
((cond ((r7_0 == 1))
(zj22 N r7_1 r7_2 r7_3 ((((((([] : List Int) ++ [(-1)]) ++ [0]) ++ [1]) ++ [65536]) ++ [9223372036854775807])) (fun r9_0 r9_1 r9_2 r9_3 r9_4 =>
k0 r6_0 r9_0 r9_1 r9_2 r9_3))
(k0 r6_0 r6_1 r7_1 r7_2 r7_3)))))))
def zj24 (N : Nat) (a0 : Int) (a1 : List Int) (a2 : Int) (a3 : Int) (k0 : Bool → List Int → Int → Int → Option β) : Option β :=
zj5 N a0 a1 a2 a3 (fun r11_0 r11_1 r11_2 r11_3 =>
k0 ((r11_0 == 0)) r11_1 r11_2 r11_3)
def zj25 (N : Nat) (a0 : List Int) (k : Int → Int → Int → Option β) : Option β :=
zj3 N a0 (fun r4_0 r4_1 r4_2 =>
zj23 N r4_0 r4_1 r4_2 (fun r5_0 r5_1 r5_2 r5_3 r5_4 =>
zj24 N 8 r5_2 r5_3 r5_4 (fun r6_0 r6_1 r6_2 r6_3 =>
(cond r6_0
(zj22 N r6_1 r6_2 r6_3 ((((([] : List Int) ++ [(-1)]) ++ [5]) ++ [6])) (fun r7_0 r7_1 r7_2 r7_3 r7_4 =>
k r5_0 r5_1 r7_0))
(zj5 N ((mxI 1 (mnI 5 (w64 (r5_0 + 1))))) r6_1 r6_2 r6_3 (fun r8_0 r8_1 r8_2 r8_3 =>
k r5_0 r5_1 r8_0))))))
def zj26 (N : Nat) (a0 : List Int) (k : Int → Int → Int → Option β) : Option β :=
zj3 N a0 (fun r4_0 r4_1 r4_2 =>
zj24 N 8 r4_0 r4_1 r4_2 (fun r5_0 r5_1 r5_2 r5_3 =>
(cond r5_0
(zj25 N a0 fun r6 r7 r8 =>
k r6 r7 r8)
(zj22 N r5_1 r5_2 r5_3 (((((((([] : List Int) ++ [4]) ++ [3]) ++ [2]) ++ [4]) ++ [1]) ++ [0])) (fun r9_0 r9_1 r9_2 r9_3 r9_4 =>
zj22 N r9_1 r9_2 r9_3 ((((([] : List Int) ++ [2]) ++ [1]) ++ [2])) (fun r10_0 r10_1 r10_2 r10_3 r10_4 =>
zj21 N r9_0 r10_1 r10_2 r10_3 (fun r11_0 r11_1 r11_2 r11_3 r11_4 =>
k r11_0 r11_1 ((mxI (w64 (r9_0 - 2)) (mnI r9_0 r10_0))))))))))
def zj27 (N : Nat) (a0 : List Int) (k : Int → Int → Int → Option β) : Option β :=
zj26 N a0 fun r4 r5 r6 =>
k r4 r5 r6
def zj28 (N : Nat) (a0 : Int) (k : Bool → Option β) : Option β :=
(cond ((decide (a0 ≥ 0)))
(k ((decide (a0 ≤ 5))))
(k false))
def zj29 (N : Nat) (a0 : Int) (a1 : Int) (k : Int → Option β) : Option β :=
(gd ((decide (0 ≤ a0)))
(k ((shlI .i64 1 a0))))
def zj30 (N : Nat) (a0 : Int) (a1 : Int) (k : Bool → Option β) : Option β :=
zj28 N a0 fun r3 =>
(cond r3
((cond ((decide (a1 ≥ 0)))
(zj29 N a0 a1 fun r4 =>
(gd ((decide (0 ≤ r4)))
(k (((shrI .i64 a1 r4) == 0)))))
(k false)))
(k false))
def zj31 (N : Nat) (a0 : Int) (a1 : Int) (a2 : Int) (k : Bool → Option β) : Option β :=
zj30 N a0 a1 fun r4 =>
(cond r4
((cond ((decide (a2 ≥ 0)))
(k ((decide (a2 ≤ a0))))
(k false)))
(k false))
def zj32 (N : Nat) (a0 : Int) (a1 : Int) (a2 : Int) (k0 : Int → Int → Option β) (k1 : Int → Int → Int → Int → Int → Mp → Option β) : Option β :=
zj31 N a0 a1 a2 fun r5 =>
(cond (!r5)
(k0 0 0)
((cond ((decide (a2 > 2)))
(k0 0 0)
((cond ((decide ((w64 (a0 - a2)) > 2)))
(k0 0 0)
((gd ((decide (0 ≤ a2)))
((gd ((decide (0 ≤ (shlI .u64 1 a2))))
((gd ((decide (0 ≤ (w64 (a0 - a2)))))
((gd ((decide (0 ≤ (shlI .u64 1 (w64 (a0 - a2))))))
(k1 ((w64 ((shlI .i64 1 (shlI .u64 1 a2)) - 1))) ((w64 ((shlI .i64 1 (shlI .u64 1 (w64 (a0 - a2)))) - 1))) a0 a1 a2 (([] : Mp))))))))))))))))
def zj33 (N : Nat) (a0 : Int) (k : ByteArray → Option β) : Option β :=
strconv_Itoa N a0 fun r2 =>
k r2
def zj34 (s0 : Bool) (s1 : Int) (s2 : Int) (s3 : Int) (s4 : Int) (K : Option β) : Option β :=
(gd (s0 == s0) (gd (s1 == s1) (gd (s2 == s2) (gd (s3 == s3) (gd (s4 == s4) K)))))
def zj35 (s0 : Int) (s1 : Int) (s2 : Int) (s3 : Int) (s4 : Int) (s5 : Int) (s6 : Int) (s7 : Int) (s8 : Int) (s9 : Int) (s10 : Int) (K : Option β) : Option β :=
(gd (s0 == s0) (gd (s1 == s1) (gd (s2 == s2) (gd (s3 == s3) (gd (s4 == s4) (gd (s5 == s5) (gd (s6 == s6) (gd (s7 == s7) (gd (s8 == s8) (gd (s9 == s9) (gd (s10 == s10) K)))))))))))
def zj36 (s0 : Bool) (s1 : Int) (s2 : Int) (s3 : Int) (s4 : Int) (K : Option β) : Option β :=
(gd (s0 == s0) (gd (s1 == s1) (gd (s2 == s2) (gd (s3 == s3) (gd (s4 == s4) K)))))
def zj37 (N : Nat) (a0 : Int) (a1 : Int) (a2 : Int) (a3 : Int) (k : Int → Int → Int → Int → Bool → Option β) : Option β :=
(cond ((a2 == 66))
((cond ((a3 == 0))
((zj34 false a0 a1 a0 a1
(k a0 a1 a0 a1 false)))
((cond ((a3 == a1))
((zj34 false a0 a1 a0 a1
(k a0 a1 a0 a1 false)))
((cond (((bits .andNot .i64 a3 a1) != 0))
((zj34 false a0 a1 a0 a1
(k a0 a1 a0 a1 false)))
((zj35 a2 a3 a1 0 0 0 0 a0 a1 a0 a1
((zj35 a2 a3 a1 0 0 0 0 a0 a1 a0 a1
((zj35 a2 a3 a1 0 0 0 0 a0 a1 a0 a1
((zj35 a2 a3 a1 0 0 0 0 a0 a1 a0 a1
((zj35 a2 a3 a1 0 0 0 0 a0 a1 a0 a1
((zj35 a2 a3 a1 0 0 0 0 a0 a1 a0 a1
((zj35 a2 a3 a1 0 0 0 0 a0 a1 a0 a1
((cond ((a2 == 65))
((zj36 true ((bits .andNot .i64 a1 a3)) a1 a3 a1
(k ((bits .andNot .i64 a1 a3)) a1 a3 a1 true)))
((zj36 true a0 ((bits .andNot .i64 a1 a3)) a0 a3
(k a0 ((bits .andNot .i64 a1 a3)) a0 a3 true)))))))))))))))))))))))))
((cond ((a3 == 0))
((zj34 false a0 a1 a0 a1
(k a0 a1 a0 a1 false)))
((cond ((a3 == a0))
((zj34 false a0 a1 a0 a1
(k a0 a1 a0 a1 false)))
((cond (((bits .andNot .i64 a3 a0) != 0))
((zj34 false a0 a1 a0 a1
(k a0 a1 a0 a1 false)))
((zj35 a2 a3 a0 0 0 0 0 a0 a1 a0 a1
((zj35 a2 a3 a0 0 0 0 0 a0 a1 a0 a1
((zj35 a2 a3 a0 0 0 0 0 a0 a1 a0 a1
((zj35 a2 a3 a0 0 0 0 0 a0 a1 a0 a1
((zj35 a2 a3 a0 0 0 0 0 a0 a1 a0 a1
((zj35 a2 a3 a0 0 0 0 0 a0 a1 a0 a1
((zj35 a2 a3 a0 0 0 0 0 a0 a1 a0 a1
((cond ((a2 == 65))
((zj36 true ((bits .andNot .i64 a0 a3)) a1 a3 a1
(k ((bits .andNot .i64 a0 a3)) a1 a3 a1 true)))
((zj36 true a0 ((bits .andNot .i64 a0 a3)) a0 a3
(k a0 ((bits .andNot .i64 a0 a3)) a0 a3 true))))))))))))))))))))))))))
def zj38 (N : Nat) (a0 : Int) (a1 : Int) (a2 : Int) (k : Int → Option β) : Option β :=
(gd ((decide (0 ≤ a2)))
(k ((bits .and .i64 (shrI .i64 a1 a2) 1))))
def zj39 (N : Nat)  (v0 : Int) (v1 : Int) (v2 : Int) (v3 : Int) (v4 : Int) (v5 : Int) (v6 : Mp) (v7 : Int) (v8 : Int) (rec_ : Int → Int → Int → Int → Int → Int → Mp → Int → Int → Option β) (k0 : Int → Int → Int → Int → Mp → Option β) (k1 : Int → Int → Int → Int → Mp → Option β) : Option β :=
(cond ((decide (v2 < v1)))
((gd ((decide (0 ≤ v5)))
((gd ((decide (0 ≤ (bits .and .i64 v2 (w64 ((shlI .i64 1 v5) - 1))))))
((cond (((bits .and .i64 (shrI .i64 v7 (bits .and .i64 v2 (w64 ((shlI .i64 1 v5) - 1)))) 1) == 0))
(rec_ v0 v1 ((w64 (v2 + 1))) v3 v4 v5 v6 v7 v8)
((gd ((decide (0 ≤ v5)))
((gd ((decide (0 ≤ (shrI .i64 v2 v5))))
((cond (((bits .and .i64 (shrI .i64 v8 (shrI .i64 v2 v5)) 1) == 0))
(rec_ v0 v1 ((w64 (v2 + 1))) v3 v4 v5 v6 v7 v8)
((cond ((decide (v0 ≥ 0)))
(zj38 N v3 v4 v2 fun r9 =>
(cond ((r9 != v0))
(k0 (-1) v3 v4 v5 v6)
(zj38 N v3 v4 v2 fun r10 =>
rec_ r10 v1 ((w64 (v2 + 1))) v3 v4 v5 v6 v7 v8)))
(zj38 N v3 v4 v2 fun r11 =>
rec_ r11 v1 ((w64 (v2 + 1))) v3 v4 v5 v6 v7 v8)))))))))))))))
(k1 v0 v3 v4 v5 v6))
def zj40 (N : Nat)  : Nat → Int → Int → Int → Int → Int → Int → Mp → Int → Int → (Int → Int → Int → Int → Mp → Option β) → (Int → Int → Int → Int → Mp → Option β) → Option β
  | 0, _, _, _, _, _, _, _, _, _, _, _ => none
  | F + 1, v0, v1, v2, v3, v4, v5, v6, v7, v8, k0, k1 => zj39 N  v0 v1 v2 v3 v4 v5 v6 v7 v8 (fun v0 v1 v2 v3 v4 v5 v6 v7 v8 => zj40 N  F v0 v1 v2 v3 v4 v5 v6 v7 v8 k0 k1) k0 k1
def zj41 (N : Nat) (a0 : Int) (a1 : Int) (a2 : Int) (a3 : Int) (a4 : Int) (a5 : Mp) (k0 : Int → Int → Int → Int → Mp → Option β) : Option β :=
zj29 N a2 a3 fun r8 =>
zj40 N  N (-1) r8 0 a2 a3 a4 a5 a0 a1 (fun e12_0 e12_1 e12_2 e12_3 e12_4 =>
k0 e12_0 e12_1 e12_2 e12_3 e12_4) (fun e13_0 e13_1 e13_2 e13_3 e13_4 =>
k0 e13_0 e13_1 e13_2 e13_3 e13_4)
def zj42 (N : Nat) (self : Int → Int → Int → Int → Int → Mp → (Int → Int → Int → Int → Mp → Option β) → Option β)  (v0 : Int) (v1 : Int) (v2 : Int) (v3 : Int) (v4 : Int) (v5 : Int) (v6 : Int) (v7 : Int) (v8 : Mp) (v9 : Int) (v10 : Int) (v11 : List Int) (rec_ : Int → Int → Int → Int → Int → Int → Int → Int → Mp → Int → Int → List Int → Option β) (k0 : Int → Int → Int → Int → Int → Int → Mp → Int → Int → List Int → Option β) : Option β :=
(cond ((decide (v4 < 16)))
(zj37 N v9 v10 v1 v4 fun r22 r23 r24 r25 r26 =>
(cond r26
(self r22 r23 v5 v6 v7 v8 (fun r27_0 r27_1 r27_2 r27_3 r27_4 =>
self r24 r25 r27_1 r27_2 r27_3 r27_4 (fun r28_0 r28_1 r28_2 r28_3 r28_4 =>
rec_ ((mnI v0 (w64 (1 + (mxI r27_0 r28_0))))) v1 v2 v3 ((w64 (v4 + 1))) r28_1 r28_2 r28_3 r28_4 v9 v10 v11)))
(rec_ v0 v1 v2 v3 ((w64 (v4 + 1))) v5 v6 v7 v8 v9 v10 v11)))
(k0 v0 v2 v3 v5 v6 v7 v8 v9 v10 v11))
def zj43 (N : Nat) (self : Int → Int → Int → Int → Int → Mp → (Int → Int → Int → Int → Mp → Option β) → Option β)  : Nat → Int → Int → Int → Int → Int → Int → Int → Int → Mp → Int → Int → List Int → (Int → Int → Int → Int → Int → Int → Mp → Int → Int → List Int → Option β) → Option β
  | 0, _, _, _, _, _, _, _, _, _, _, _, _, _ => none
  | F + 1, v0, v1, v2, v3, v4, v5, v6, v7, v8, v9, v10, v11, k0 => zj42 N self  v0 v1 v2 v3 v4 v5 v6 v7 v8 v9 v10 v11 (fun v0 v1 v2 v3 v4 v5 v6 v7 v8 v9 v10 v11 => zj43 N self  F v0 v1 v2 v3 v4 v5 v6 v7 v8 v9 v10 v11 k0) k0
def zj44 (N : Nat) (self : Int → Int → Int → Int → Int → Mp → (Int → Int → Int → Int → Mp → Option β) → Option β)  (v0 : Int) (v1 : Int) (v2 : Int) (v3 : Int) (v4 : Int) (v5 : Int) (v6 : Mp) (v7 : Int) (v8 : Int) (v9 : List Int) (rec_ : Int → Int → Int → Int → Int → Int → Mp → Int → Int → List Int → Option β) (k0 : Int → Int → Int → Int → Mp → Int → Int → Option β) : Option β :=
(cond ((decide (v2 < v1)))
((gd ((decide (0 ≤ v2)))
((gd ((decide (v2 < (v9.length : Int))))
(zj43 N self  N v0 ((rd 0 v9 v2)) v1 v2 0 v3 v4 v5 v6 v7 v8 v9 (fun e29_0 e29_1 e29_2 e29_3 e29_4 e29_5 e29_6 e29_7 e29_8 e29_9 =>
rec_ e29_0 e29_1 ((w64 (e29_2 + 1))) e29_3 e29_4 e29_5 e29_6 e29_7 e29_8 e29_9))))))
(k0 v0 v3 v4 v5 v6 v7 v8))
def zj45 (N : Nat) (self : Int → Int → Int → Int → Int → Mp → (Int → Int → Int → Int → Mp → Option β) → Option β)  : Nat → Int → Int → Int → Int → Int → Int → Mp → Int → Int → List Int → (Int → Int → Int → Int → Mp → Int → Int → Option β) → Option β
  | 0, _, _, _, _, _, _, _, _, _, _, _ => none
  | F + 1, v0, v1, v2, v3, v4, v5, v6, v7, v8, v9, k0 => zj44 N self  v0 v1 v2 v3 v4 v5 v6 v7 v8 v9 (fun v0 v1 v2 v3 v4 v5 v6 v7 v8 v9 => zj45 N self  F v0 v1 v2 v3 v4 v5 v6 v7 v8 v9 k0) k0
def zj46 (N : Nat) (self : Int → Int → Int → Int → Int → Mp → (Int → Int → Int → Int → Mp → Option β) → Option β) (a0 : Int) (a1 : Int) (a2 : Int) (a3 : Int) (a4 : Int) (a5 : Mp) (k0 : Int → Int → Int → Int → Mp → Option β) : Option β :=
(cond ((hasM ⟨true, false⟩ a5 a0 a1))
(k0 ((getM ⟨true, false⟩ a5 a0 a1)) a2 a3 a4 a5)
(zj41 N a0 a1 a2 a3 a4 a5 (fun r21_0 r21_1 r21_2 r21_3 r21_4 =>
(cond ((decide (r21_0 < 0)))
(zj45 N self  N 4 (((((([] : List Int) ++ [65]) ++ [66])).length : Int)) 0 r21_1 r21_2 r21_3 r21_4 a0 a1 (((([] : List Int) ++ [65]) ++ [66])) (fun e30_0 e30_1 e30_2 e30_3 e30_4 e30_5 e30_6 =>
k0 e30_0 e30_1 e30_2 e30_3 ((putM ⟨true, false⟩ e30_4 e30_5 e30_6 e30_0))))
(k0 0 r21_1 r21_2 r21_3 ((putM ⟨true, false⟩ r21_4 a0 a1 0)))))))
def zj47 (N : Nat) : Nat → Int → Int → Int → Int → Int → Mp → (Int → Int → Int → Int → Mp → Option β) → Option β
  | 0, _, _, _, _, _, _, _ => none
  | F + 1, a0, a1, a2, a3, a4, a5, k0 => zj46 N (zj47 N F) a0 a1 a2 a3 a4 a5 k0
def zj48 (N : Nat) (a0 : Int) (a1 : Int) (a2 : Int) (a3 : Int) (a4 : Int) (a5 : Mp) (k0 : Int → Int → Int → Int → Mp → Option β) : Option β := zj47 N N a0 a1 a2 a3 a4 a5 k0
def zj49 (s0 : ByteArray) (s1 : Int) (s2 : Int) (s3 : Int) (s4 : Mp) (u0 : ByteArray) (u1 : Int) (u2 : Int) (u3 : Int) (u4 : Mp) (K : Option β) : Option β :=
(gd (decide (s0 = u0)) (gd (s1 == u1) (gd (s2 == u2) (gd (s3 == u3) (gd (s4 == u4) K)))))
def zj50 (N : Nat) (self : Int → Int → Int → Int → Int → Mp → (ByteArray → Int → Int → Int → Mp → Option β) → Option β)  (v0 : Int) (v1 : Int) (v2 : Int) (v3 : Int) (v4 : Int) (v5 : Int) (v6 : Int) (v7 : Mp) (v8 : Int) (v9 : Int) (v10 : List Int) (rec_ : Int → Int → Int → Int → Int → Int → Int → Mp → Int → Int → List Int → Option β) (k0 : ByteArray → Int → Int → Int → Mp → Option β) (k1 : Int → Int → Int → Int → Int → Mp → Int → Int → List Int → Option β) : Option β :=
(cond ((decide (v3 < 16)))
(zj37 N v8 v9 v0 v3 fun r10 r11 r12 r13 r14 =>
(cond r14
(zj48 N r10 r11 v4 v5 v6 v7 (fun r15_0 r15_1 r15_2 r15_3 r15_4 =>
zj48 N v8 v9 r15_1 r15_2 r15_3 r15_4 (fun r16_0 r16_1 r16_2 r16_3 r16_4 =>
(cond ((decide (r15_0 < r16_0)))
(zj48 N r12 r13 r16_1 r16_2 r16_3 r16_4 (fun r17_0 r17_1 r17_2 r17_3 r17_4 =>
zj48 N v8 v9 r17_1 r17_2 r17_3 r17_4 (fun r18_0 r18_1 r18_2 r18_3 r18_4 =>
(cond ((decide (r17_0 < r18_0)))
((gd ((decide (0 ≤ v3)))
((gd ((decide (v3 < (((strOf [48, 49, 50, 51, 52, 53, 54, 55, 56, 57, 97, 98, 99, 100, 101, 102])).size : Int))))
(self r10 r11 r18_1 r18_2 r18_3 r18_4 (fun r19_0 r19_1 r19_2 r19_3 r19_4 =>
(gd ((decide (((strOf (((([] : List Int) ++ [v0]) ++ [(bt ((strOf [48, 49, 50, 51, 52, 53, 54, 55, 56, 57, 97, 98, 99, 100, 101, 102])) v3)])))).size + r19_0.size ≤ 9223372036854775807)))
(self r12 r13 r19_1 r19_2 r19_3 r19_4 (fun r20_0 r20_1 r20_2 r20_3 r20_4 =>
(gd ((decide ((((strOf (((([] : List Int) ++ [v0]) ++ [(bt ((strOf [48, 49, 50, 51, 52, 53, 54, 55, 56, 57, 97, 98, 99, 100, 101, 102])) v3)]))) ++ r19_0)).size + r20_0.size ≤ 9223372036854775807)))
(self r10 r11 r18_1 r18_2 r18_3 r18_4 (fun r21_0 r21_1 r21_2 r21_3 r21_4 =>
(gd ((decide (((strOf (((([] : List Int) ++ [v0]) ++ [(bt ((strOf [48, 49, 50, 51, 52, 53, 54, 55, 56, 57, 97, 98, 99, 100, 101, 102])) v3)])))).size + r21_0.size ≤ 9223372036854775807)))
(self r12 r13 r21_1 r21_2 r21_3 r21_4 (fun r22_0 r22_1 r22_2 r22_3 r22_4 =>
(gd ((decide ((((strOf (((([] : List Int) ++ [v0]) ++ [(bt ((strOf [48, 49, 50, 51, 52, 53, 54, 55, 56, 57, 97, 98, 99, 100, 101, 102])) v3)]))) ++ r21_0)).size + r22_0.size ≤ 9223372036854775807)))
(self r12 r13 r21_1 r21_2 r21_3 r21_4 (fun r23_0 r23_1 r23_2 r23_3 r23_4 =>
(gd ((decide (((strOf (((([] : List Int) ++ [v0]) ++ [(bt ((strOf [48, 49, 50, 51, 52, 53, 54, 55, 56, 57, 97, 98, 99, 100, 101, 102])) v3)])))).size + r21_0.size ≤ 9223372036854775807)))
((gd ((decide ((((strOf (((([] : List Int) ++ [v0]) ++ [(bt ((strOf [48, 49, 50, 51, 52, 53, 54, 55, 56, 57, 97, 98, 99, 100, 101, 102])) v3)]))) ++ r21_0)).size + r23_0.size ≤ 9223372036854775807)))
((zj49 ((((strOf (((([] : List Int) ++ [v0]) ++ [(bt ((strOf [48, 49, 50, 51, 52, 53, 54, 55, 56, 57, 97, 98, 99, 100, 101, 102])) v3)]))) ++ r21_0) ++ r22_0)) r22_1 r22_2 r22_3 r22_4 ((((strOf (((([] : List Int) ++ [v0]) ++ [(bt ((strOf [48, 49, 50, 51, 52, 53, 54, 55, 56, 57, 97, 98, 99, 100, 101, 102])) v3)]))) ++ r21_0) ++ r23_0)) r23_1 r23_2 r23_3 r23_4
((zj49 ((((strOf (((([] : List Int) ++ [v0]) ++ [(bt ((strOf [48, 49, 50, 51, 52, 53, 54, 55, 56, 57, 97, 98, 99, 100, 101, 102])) v3)]))) ++ r19_0) ++ r20_0)) r20_1 r20_2 r20_3 r20_4 ((((strOf (((([] : List Int) ++ [v0]) ++ [(bt ((strOf [48, 49, 50, 51, 52, 53, 54, 55, 56, 57, 97, 98, 99, 100, 101, 102])) v3)]))) ++ r21_0) ++ r22_0)) r22_1 r22_2 r22_3 r22_4
(k0 ((((strOf (((([] : List Int) ++ [v0]) ++ [(bt ((strOf [48, 49, 50, 51, 52, 53, 54, 55, 56, 57, 97, 98, 99, 100, 101, 102])) v3)]))) ++ r19_0) ++ r20_0)) r20_1 r20_2 r20_3 r20_4))))))))))))))))))))))))))
(rec_ v0 v1 v2 ((w64 (v3 + 1))) r18_1 r18_2 r18_3 r18_4 v8 v9 v10)))))
(rec_ v0 v1 v2 ((w64 (v3 + 1))) r16_1 r16_2 r16_3 r16_4 v8 v9 v10)))))
(rec_ v0 v1 v2 ((w64 (v3 + 1))) v4 v5 v6 v7 v8 v9 v10)))
(k1 v1 v2 v4 v5 v6 v7 v8 v9 v10))
def zj51 (N : Nat) (self : Int → Int → Int → Int → Int → Mp → (ByteArray → Int → Int → Int → Mp → Option β) → Option β)  : Nat → Int → Int → Int → Int → Int → Int → Int → Mp → Int → Int → List Int → (ByteArray → Int → Int → Int → Mp → Option β) → (Int → Int → Int → Int → Int → Mp → Int → Int → List Int → Option β) → Option β
  | 0, _, _, _, _, _, _, _, _, _, _, _, _, _ => none
  | F + 1, v0, v1, v2, v3, v4, v5, v6, v7, v8, v9, v10, k0, k1 => zj50 N self  v0 v1 v2 v3 v4 v5 v6 v7 v8 v9 v10 (fun v0 v1 v2 v3 v4 v5 v6 v7 v8 v9 v10 => zj51 N self  F v0 v1 v2 v3 v4 v5 v6 v7 v8 v9 v10 k0 k1) k0 k1
def zj52 (N : Nat) (self : Int → Int → Int → Int → Int → Mp → (ByteArray → Int → Int → Int → Mp → Option β) → Option β)  (v0 : Int) (v1 : Int) (v2 : Int) (v3 : Int) (v4 : Int) (v5 : Mp) (v6 : Int) (v7 : Int) (v8 : List Int) (rec_ : Int → Int → Int → Int → Int → Mp → Int → Int → List Int → Option β) (k0 : ByteArray → Int → Int → Int → Mp → Option β) (k1 : Int → Int → Int → Mp → Option β) : Option β :=
(cond ((decide (v1 < v0)))
((gd ((decide (0 ≤ v1)))
((gd ((decide (v1 < (v8.length : Int))))
(zj51 N self  N ((rd 0 v8 v1)) v0 v1 0 v2 v3 v4 v5 v6 v7 v8 (fun e24_0 e24_1 e24_2 e24_3 e24_4 =>
k0 e24_0 e24_1 e24_2 e24_3 e24_4) (fun e25_0 e25_1 e25_2 e25_3 e25_4 e25_5 e25_6 e25_7 e25_8 =>
rec_ e25_0 ((w64 (e25_1 + 1))) e25_2 e25_3 e25_4 e25_5 e25_6 e25_7 e25_8))))))
(k1 v2 v3 v4 v5))
def zj53 (N : Nat) (self : Int → Int → Int → Int → Int → Mp → (ByteArray → Int → Int → Int → Mp → Option β) → Option β)  : Nat → Int → Int → Int → Int → Int → Mp → Int → Int → List Int → (ByteArray → Int → Int → Int → Mp → Option β) → (Int → Int → Int → Mp → Option β) → Option β
  | 0, _, _, _, _, _, _, _, _, _, _, _ => none
  | F + 1, v0, v1, v2, v3, v4, v5, v6, v7, v8, k0, k1 => zj52 N self  v0 v1 v2 v3 v4 v5 v6 v7 v8 (fun v0 v1 v2 v3 v4 v5 v6 v7 v8 => zj53 N self  F v0 v1 v2 v3 v4 v5 v6 v7 v8 k0 k1) k0 k1
def zj54 (N : Nat) (self : Int → Int → Int → Int → Int → Mp → (ByteArray → Int → Int → Int → Mp → Option β) → Option β) (a0 : Int) (a1 : Int) (a2 : Int) (a3 : Int) (a4 : Int) (a5 : Mp) (k0 : ByteArray → Int → Int → Int → Mp → Option β) : Option β :=
zj41 N a0 a1 a2 a3 a4 a5 (fun r8_0 r8_1 r8_2 r8_3 r8_4 =>
(cond ((decide (r8_0 ≥ 0)))
(zj33 N r8_0 fun r9 =>
k0 r9 r8_1 r8_2 r8_3 r8_4)
(zj53 N self  N (((((([] : List Int) ++ [65]) ++ [66])).length : Int)) 0 r8_1 r8_2 r8_3 r8_4 a0 a1 (((([] : List Int) ++ [65]) ++ [66])) (fun e26_0 e26_1 e26_2 e26_3 e26_4 =>
k0 e26_0 e26_1 e26_2 e26_3 e26_4) (fun e27_0 e27_1 e27_2 e27_3 =>
k0 ByteArray.empty e27_0 e27_1 e27_2 e27_3))))
def zj55 (N : Nat) : Nat → Int → Int → Int → Int → Int → Mp → (ByteArray → Int → Int → Int → Mp → Option β) → Option β
  | 0, _, _, _, _, _, _, _ => none
  | F + 1, a0, a1, a2, a3, a4, a5, k0 => zj54 N (zj55 N F) a0 a1 a2 a3 a4 a5 k0
def zj56 (N : Nat) (a0 : Int) (a1 : Int) (a2 : Int) (a3 : Int) (a4 : Int) (a5 : Mp) (k0 : ByteArray → Int → Int → Int → Mp → Option β) : Option β := zj55 N N a0 a1 a2 a3 a4 a5 k0
def zj57 (N : Nat) (a0 : Int) (a1 : Int) (a2 : Int) (k : ByteArray → Bool → Option β) : Option β :=
zj32 N a0 a1 a2 (fun r5_0 r5_1 =>
k ByteArray.empty false) (fun r6_0 r6_1 r6_3 r6_4 r6_5 r6_6 =>
zj56 N r6_0 r6_1 r6_3 r6_4 r6_5 r6_6 (fun r7_0 r7_1 r7_2 r7_3 r7_4 =>
k r7_0 true))
def zj58 (N : Nat) (a0 : Int) (a1 : Int) (a2 : Int) (k : Bool → Option β) : Option β :=
(cond ((decide (a0 ≥ a1)))
(k ((decide (a0 ≤ a2))))
(k false))
def zj59 (N : Nat) (a0 : Int) (a1 : Int) (k : Bool → Option β) : Option β :=
zj58 N a0 0 5 fun r3 =>
(cond r3
((gd ((decide (0 ≤ a0)))
((gd ((decide (0 ≤ (shlI .u64 1 a0))))
(zj58 N a1 0 ((w64 ((shlI .i64 1 (shlI .u64 1 a0)) - 1))) fun r4 =>
k r4)))))
(k false))
def zj60 (N : Nat) (a0 : Int) (a1 : Int) (a2 : Int) (k : Bool → Option β) : Option β :=
zj59 N a0 a1 fun r4 =>
(cond r4
(zj58 N a2 0 2 fun r5 =>
(cond r5
(zj58 N ((w64 (a0 - a2))) 0 2 fun r6 =>
k r6)
(k false)))
(k false))
def zj61 (N : Nat)  (v0 : Int) (v1 : Int) (v2 : Int) (v3 : Int) (v4 : Int) (v5 : Int) (v6 : List Int) (rec_ : Int → Int → Int → Int → Int → Int → List Int → Option β) (k0 : Int → Int → Int → Int → Int → List Int → Option β) : Option β :=
(gd ((decide (0 ≤ (w64 (v4 - v0)))))
((cond ((decide (v3 < (shlI .i64 1 (w64 (v4 - v0))))))
((gd ((decide (0 ≤ v0)))
((gd ((decide (0 ≤ (bits .or .i64 v1 (shlI .i64 v3 v0)))))
((gd ((decide (0 ≤ v3)))
(rec_ v0 v1 ((bits .or .i64 v2 (shlI .i64 (bits .and .i64 (shrI .i64 v5 (bits .or .i64 v1 (shlI .i64 v3 v0))) 1) v3))) ((w64 (v3 + 1))) v4 v5 v6)))))))
(k0 v0 v1 v2 v4 v5 v6))))
def zj62 (N : Nat)  : Nat → Int → Int → Int → Int → Int → Int → List Int → (Int → Int → Int → Int → Int → List Int → Option β) → Option β
  | 0, _, _, _, _, _, _, _, _ => none
  | F + 1, v0, v1, v2, v3, v4, v5, v6, k0 => zj61 N  v0 v1 v2 v3 v4 v5 v6 (fun v0 v1 v2 v3 v4 v5 v6 => zj62 N  F v0 v1 v2 v3 v4 v5 v6 k0) k0
def zj63 (N : Nat)  (v0 : Int) (v1 : Int) (v2 : Int) (v3 : Int) (v4 : List Int) (rec_ : Int → Int → Int → Int → List Int → Option β) (k0 : List Int → Option β) : Option β :=
(gd ((decide (0 ≤ v0)))
((cond ((decide (v1 < (shlI .i64 1 v0))))
(zj62 N  N v0 v1 0 0 v2 v3 v4 (fun e7_0 e7_1 e7_2 e7_3 e7_4 e7_5 =>
(gd ((decide ((e7_5.length + ((([] : List Int) ++ [e7_2])).length) * 8 ≤ 140737488355328)))
(rec_ e7_0 ((w64 (e7_1 + 1))) e7_3 e7_4 ((e7_5 ++ (([] : List Int) ++ [e7_2])))))))
(k0 v4))))
def zj64 (N : Nat)  : Nat → Int → Int → Int → Int → List Int → (List Int → Option β) → Option β
  | 0, _, _, _, _, _, _ => none
  | F + 1, v0, v1, v2, v3, v4, k0 => zj63 N  v0 v1 v2 v3 v4 (fun v0 v1 v2 v3 v4 => zj64 N  F v0 v1 v2 v3 v4 k0) k0
def zj65 (N : Nat) (a0 : Int) (a1 : Int) (a2 : Int) (k : List Int → Bool → Option β) : Option β :=
zj59 N a0 a1 fun r5 =>
(cond (!r5)
(k (([] : List Int)) false)
(zj58 N a2 0 a0 fun r6 =>
(cond (!r6)
(k (([] : List Int)) false)
(zj64 N  N a2 0 a0 a1 (([] : List Int)) (fun e8_0 =>
k e8_0 true)))))
def zj66 (N : Nat)  (v0 : List Int) (v1 : Int) (v2 : Int) (v3 : Int) (v4 : Int) (v5 : Int) (rec_ : List Int → Int → Int → Int → Int → Int → Option β) (k0 : Int → Option β) (k1 : List Int → Int → Int → Int → Int → Option β) : Option β :=
(gd ((decide (0 ≤ v5)))
((cond ((decide ((shrI .i64 v2 v5) > 0)))
((gd ((decide (0 ≤ v5)))
((cond (((bits .and .i64 (shrI .i64 v2 v5) 1) == 0))
(rec_ v0 v1 v2 v3 v4 ((w64 (v5 + 1))))
((gd ((decide (0 ≤ v4)))
((gd ((decide (v4 < (v0.length : Int))))
((gd ((decide (0 ≤ v5)))
((cond ((decide (v3 ≥ 0)))
((cond (((bits .and .i64 (shrI .i64 (rd 0 v0 v4) v5) 1) != v3))
(k0 2)
(rec_ v0 v1 v2 ((bits .and .i64 (shrI .i64 (rd 0 v0 v4) v5) 1)) v4 ((w64 (v5 + 1))))))
(rec_ v0 v1 v2 ((bits .and .i64 (shrI .i64 (rd 0 v0 v4) v5) 1)) v4 ((w64 (v5 + 1))))))))))))))))
(k1 v0 v1 v2 v3 v4))))
def zj67 (N : Nat)  : Nat → List Int → Int → Int → Int → Int → Int → (Int → Option β) → (List Int → Int → Int → Int → Int → Option β) → Option β
  | 0, _, _, _, _, _, _, _, _ => none
  | F + 1, v0, v1, v2, v3, v4, v5, k0, k1 => zj66 N  v0 v1 v2 v3 v4 v5 (fun v0 v1 v2 v3 v4 v5 => zj67 N  F v0 v1 v2 v3 v4 v5 k0 k1) k0 k1
def zj68 (N : Nat)  (v0 : List Int) (v1 : Int) (v2 : Int) (v3 : Int) (v4 : Int) (rec_ : List Int → Int → Int → Int → Int → Option β) (k0 : Int → Option β) (k1 : Int → Option β) : Option β :=
(cond ((decide (v4 < (v0.length : Int))))
((gd ((decide (0 ≤ v4)))
((cond (((bits .and .i64 (shrI .i64 v1 v4) 1) == 0))
(rec_ v0 v1 v2 v3 ((w64 (v4 + 1))))
(zj67 N  N v0 v1 v2 v3 v4 0 (fun e4_0 =>
k0 e4_0) (fun e5_0 e5_1 e5_2 e5_3 e5_4 =>
rec_ e5_0 e5_1 e5_2 e5_3 ((w64 (e5_4 + 1)))))))))
(k1 v3))
def zj69 (N : Nat)  : Nat → List Int → Int → Int → Int → Int → (Int → Option β) → (Int → Option β) → Option β
  | 0, _, _, _, _, _, _, _ => none
  | F + 1, v0, v1, v2, v3, v4, k0, k1 => zj68 N  v0 v1 v2 v3 v4 (fun v0 v1 v2 v3 v4 => zj69 N  F v0 v1 v2 v3 v4 k0 k1) k0 k1
def zj70 (N : Nat) (a0 : List Int) (a1 : Int) (a2 : Int) (k : Int → Option β) : Option β :=
zj69 N  N a0 a1 a2 (-1) 0 (fun e6_0 =>
k e6_0) (fun e7_0 =>
k e7_0)
def zj71 (N : Nat) (self : List Int → Int → Int → Int → (Int → Option β) → Option β)  (v0 : List Int) (v1 : Int) (v2 : Int) (v3 : Int) (v4 : Int) (rec_ : List Int → Int → Int → Int → Int → Option β) (k0 : Int → Option β) (k1 : List Int → Int → Int → Int → Option β) : Option β :=
(cond ((decide (v4 > 0)))
((cond ((decide (v4 < (w64 (v1 - v4)))))
(rec_ v0 v1 v2 v3 ((bits .and .i64 (w64 (v4 - 1)) v1)))
(self v0 v4 v2 ((w64 (v3 - 2))) fun r6 =>
(cond ((decide ((w64 (1 + r6)) < v3)))
(self v0 ((w64 (v1 - v4))) v2 ((w64 (v3 - 2))) fun r7 =>
(cond (((mnI v3 (mxI (w64 (1 + r6)) (w64 (1 + r7)))) == 1))
(k0 ((mnI v3 (mxI (w64 (1 + r6)) (w64 (1 + r7))))))
(rec_ v0 v1 v2 ((mnI v3 (mxI (w64 (1 + r6)) (w64 (1 + r7))))) ((bits .and .i64 (w64 (v4 - 1)) v1)))))
((cond ((v3 == 1))
(k0 v3)
(rec_ v0 v1 v2 v3 ((bits .and .i64 (w64 (v4 - 1)) v1)))))))))
(k1 v0 v1 v2 v3))
def zj72 (N : Nat) (self : List Int → Int → Int → Int → (Int → Option β) → Option β)  : Nat → List Int → Int → Int → Int → Int → (Int → Option β) → (List Int → Int → Int → Int → Option β) → Option β
  | 0, _, _, _, _, _, _, _ => none
  | F + 1, v0, v1, v2, v3, v4, k0, k1 => zj71 N self  v0 v1 v2 v3 v4 (fun v0 v1 v2 v3 v4 => zj72 N self  F v0 v1 v2 v3 v4 k0 k1) k0 k1
def zj73 (N : Nat) (self : List Int → Int → Int → Int → (Int → Option β) → Option β)  (v0 : List Int) (v1 : Int) (v2 : Int) (v3 : Int) (v4 : Int) (rec_ : List Int → Int → Int → Int → Int → Option β) (k0 : Int → Option β) : Option β :=
(cond ((decide (v4 > 0)))
((cond ((decide (v4 < (w64 (v2 - v4)))))
(rec_ v0 v1 v2 v3 ((bits .and .i64 (w64 (v4 - 1)) v2)))
((cond ((v3 == 1))
(rec_ v0 v1 v2 v3 ((bits .and .i64 (w64 (v4 - 1)) v2)))
(self v0 v1 v4 ((w64 (v3 - 2))) fun r10 =>
(cond ((decide ((w64 (1 + r10)) < v3)))
(self v0 v1 ((w64 (v2 - v4))) ((w64 (v3 - 2))) fun r11 =>
rec_ v0 v1 v2 ((mnI v3 (mxI (w64 (1 + r10)) (w64 (1 + r11))))) ((bits .and .i64 (w64 (v4 - 1)) v2)))
(rec_ v0 v1 v2 v3 ((bits .and .i64 (w64 (v4 - 1)) v2)))))))))
(k0 v3))
def zj74 (N : Nat) (self : List Int → Int → Int → Int → (Int → Option β) → Option β)  : Nat → List Int → Int → Int → Int → Int → (Int → Option β) → Option β
  | 0, _, _, _, _, _, _ => none
  | F + 1, v0, v1, v2, v3, v4, k0 => zj73 N self  v0 v1 v2 v3 v4 (fun v0 v1 v2 v3 v4 => zj74 N self  F v0 v1 v2 v3 v4 k0) k0
def zj75 (N : Nat) (self : List Int → Int → Int → Int → (Int → Option β) → Option β) (a0 : List Int) (a1 : Int) (a2 : Int) (a3 : Int) (k : Int → Option β) : Option β :=
zj70 N a0 a1 a2 fun r5 =>
(cond ((decide (r5 < 2)))
(k 0)
((cond ((a3 == 0))
(k 1)
(zj72 N self  N a0 a1 a2 ((w64 (a3 + 1))) ((bits .and .i64 (w64 (a1 - 1)) a1)) (fun e8_0 =>
k e8_0) (fun e9_0 e9_1 e9_2 e9_3 =>
zj74 N self  N e9_0 e9_1 e9_2 e9_3 ((bits .and .i64 (w64 (e9_2 - 1)) e9_2)) (fun e12_0 =>
k e12_0))))))
def zj76 (N : Nat) : Nat → List Int → Int → Int → Int → (Int → Option β) → Option β
  | 0, _, _, _, _, _ => none
  | F + 1, a0, a1, a2, a3, k => zj75 N (zj76 N F) a0 a1 a2 a3 k
def zj77 (N : Nat) (a0 : List Int) (a1 : Int) (a2 : Int) (a3 : Int) (k : Int → Option β) : Option β := zj76 N N a0 a1 a2 a3 k
def zj78 (N : Nat) (a0 : Int) (a1 : Int) (a2 : Int) (k : Int → Option β) : Option β :=
zj60 N a0 a1 a2 fun r4 =>
(cond (!r4)
(k (-1))
(zj65 N a0 a1 a2 fun r5 r6 =>
(gd ((decide (0 ≤ (r5.length : Int))))
((gd ((decide (0 ≤ (w64 (a0 - a2)))))
((gd ((decide (0 ≤ (shlI .u64 1 (w64 (a0 - a2))))))
(zj77 N r5 ((w64 ((shlI .i64 1 (r5.length : Int)) - 1))) ((w64 ((shlI .i64 1 (shlI .u64 1 (w64 (a0 - a2)))) - 1))) 4 fun r7 =>
k r7))))))))
def zj79 (N : Nat) (a0 : Int) (k : ByteArray → Option β) : Option β :=
(gd ((decide (0 ≤ (w64 (a0 + 1)))))
((gd ((decide ((w64 (a0 + 1)) ≤ (((strOf [48, 49, 50, 51, 52, 53, 54, 55, 56, 57, 97, 98, 99, 100, 101, 102])).size : Int))))
((gd ((decide (0 ≤ a0)))
((gd ((decide (a0 ≤ (w64 (a0 + 1)))))
(k ((((strOf [48, 49, 50, 51, 52, 53, 54, 55, 56, 57, 97, 98, 99, 100, 101, 102])).extract (Int.toNat a0) (Int.toNat (w64 (a0 + 1)))))))))))))
def zj80 (N : Nat) (self : List Int → Int → Int → Int → (ByteArray → Option β) → Option β)  (v0 : List Int) (v1 : Int) (v2 : Int) (v3 : Int) (v4 : Int) (rec_ : List Int → Int → Int → Int → Int → Option β) (k0 : ByteArray → Option β) (k1 : List Int → Int → Int → Int → Option β) : Option β :=
(cond ((decide (v4 < v1)))
((cond (((bits .and .i64 v4 v1) == v4))
(zj77 N v0 v4 v2 ((w64 (v3 - 1))) fun r6 =>
(cond ((decide (r6 < v3)))
(zj77 N v0 ((w64 (v1 - v4))) v2 ((w64 (v3 - 1))) fun r7 =>
(cond ((decide (r7 < v3)))
(zj79 N v4 fun r8 =>
(gd ((decide (((strOf [65])).size + r8.size ≤ 9223372036854775807)))
(zj77 N v0 ((w64 (v1 - v4))) v2 ((w64 (v3 - 1))) fun r9 =>
self v0 ((w64 (v1 - v4))) v2 r9 fun r10 =>
(gd ((decide ((((strOf [65]) ++ r8)).size + r10.size ≤ 9223372036854775807)))
(zj77 N v0 v4 v2 ((w64 (v3 - 1))) fun r11 =>
self v0 v4 v2 r11 fun r12 =>
(gd ((decide (((((strOf [65]) ++ r8) ++ r10)).size + r12.size ≤ 9223372036854775807)))
(k0 (((((strOf [65]) ++ r8) ++ r10) ++ r12)))))))))
(rec_ v0 v1 v2 v3 ((w64 (v4 + 1))))))
(rec_ v0 v1 v2 v3 ((w64 (v4 + 1))))))
(rec_ v0 v1 v2 v3 ((w64 (v4 + 1))))))
(k1 v0 v1 v2 v3))
def zj81 (N : Nat) (self : List Int → Int → Int → Int → (ByteArray → Option β) → Option β)  : Nat → List Int → Int → Int → Int → Int → (ByteArray → Option β) → (List Int → Int → Int → Int → Option β) → Option β
  | 0, _, _, _, _, _, _, _ => none
  | F + 1, v0, v1, v2, v3, v4, k0, k1 => zj80 N self  v0 v1 v2 v3 v4 (fun v0 v1 v2 v3 v4 => zj81 N self  F v0 v1 v2 v3 v4 k0 k1) k0 k1
def zj82 (N : Nat) (self : List Int → Int → Int → Int → (ByteArray → Option β) → Option β)  (v0 : List Int) (v1 : Int) (v2 : Int) (v3 : Int) (v4 : Int) (rec_ : List Int → Int → Int → Int → Int → Option β) (k0 : ByteArray → Option β) (k1 : Option β) : Option β :=
(cond ((decide (v4 < v2)))
((cond (((bits .and .i64 v4 v2) == v4))
(zj77 N v0 v1 v4 ((w64 (v3 - 1))) fun r15 =>
(cond ((decide (r15 < v3)))
(zj77 N v0 v1 ((w64 (v2 - v4))) ((w64 (v3 - 1))) fun r16 =>
(cond ((decide (r16 < v3)))
(zj79 N v4 fun r17 =>
(gd ((decide (((strOf [66])).size + r17.size ≤ 9223372036854775807)))
(zj77 N v0 v1 ((w64 (v2 - v4))) ((w64 (v3 - 1))) fun r18 =>
self v0 v1 ((w64 (v2 - v4))) r18 fun r19 =>
(gd ((decide ((((strOf [66]) ++ r17)).size + r19.size ≤ 9223372036854775807)))
(zj77 N v0 v1 v4 ((w64 (v3 - 1))) fun r20 =>
self v0 v1 v4 r20 fun r21 =>
(gd ((decide (((((strOf [66]) ++ r17) ++ r19)).size + r21.size ≤ 9223372036854775807)))
(k0 (((((strOf [66]) ++ r17) ++ r19) ++ r21)))))))))
(rec_ v0 v1 v2 v3 ((w64 (v4 + 1))))))
(rec_ v0 v1 v2 v3 ((w64 (v4 + 1))))))
(rec_ v0 v1 v2 v3 ((w64 (v4 + 1))))))
(k1 ))
def zj83 (N : Nat) (self : List Int → Int → Int → Int → (ByteArray → Option β) → Option β)  : Nat → List Int → Int → Int → Int → Int → (ByteArray → Option β) → (Option β) → Option β
  | 0, _, _, _, _, _, _, _ => none
  | F + 1, v0, v1, v2, v3, v4, k0, k1 => zj82 N self  v0 v1 v2 v3 v4 (fun v0 v1 v2 v3 v4 => zj83 N self  F v0 v1 v2 v3 v4 k0 k1) k0 k1
def zj84 (N : Nat) (self : List Int → Int → Int → Int → (ByteArray → Option β) → Option β) (a0 : List Int) (a1 : Int) (a2 : Int) (a3 : Int) (k : ByteArray → Option β) : Option β :=
zj70 N a0 a1 a2 fun r5 =>
(cond ((decide (r5 < 2)))
((gd ((decide (0 ≤ (w64 (r5 + 1)))))
((gd ((decide ((w64 (r5 + 1)) ≤ (((strOf [48, 49])).size : Int))))
((gd ((decide (0 ≤ r5)))
((gd ((decide (r5 ≤ (w64 (r5 + 1)))))
(k ((((strOf [48, 49])).extract (Int.toNat r5) (Int.toNat (w64 (r5 + 1))))))))))))))
(zj81 N self  N a0 a1 a2 a3 1 (fun e13_0 =>
k e13_0) (fun e14_0 e14_1 e14_2 e14_3 =>
zj83 N self  N e14_0 e14_1 e14_2 e14_3 1 (fun e22_0 =>
k e22_0) (k ByteArray.empty))))
def zj85 (N : Nat) : Nat → List Int → Int → Int → Int → (ByteArray → Option β) → Option β
  | 0, _, _, _, _, _ => none
  | F + 1, a0, a1, a2, a3, k => zj84 N (zj85 N F) a0 a1 a2 a3 k
def zj86 (N : Nat) (a0 : List Int) (a1 : Int) (a2 : Int) (a3 : Int) (k : ByteArray → Option β) : Option β := zj85 N N a0 a1 a2 a3 k
def zj87 (N : Nat) (a0 : Int) (a1 : Int) (a2 : Int) (k : ByteArray → Bool → Option β) : Option β :=
zj60 N a0 a1 a2 fun r5 =>
(cond (!r5)
(k ByteArray.empty false)
(zj65 N a0 a1 a2 fun r6 r7 =>
(gd ((decide (0 ≤ (r6.length : Int))))
((gd ((decide (0 ≤ (w64 (a0 - a2)))))
((gd ((decide (0 ≤ (shlI .u64 1 (w64 (a0 - a2))))))
(zj78 N a0 a1 a2 fun r8 =>
zj86 N r6 ((w64 ((shlI .i64 1 (r6.length : Int)) - 1))) ((w64 ((shlI .i64 1 (shlI .u64 1 (w64 (a0 - a2)))) - 1))) r8 fun r9 =>
k r9 true))))))))
def zj88 (N : Nat) (a0 : Int) (a1 : Int) (a2 : Int) (k : Int → Option β) : Option β :=
zj32 N a0 a1 a2 (fun r4_0 r4_1 =>
k (-1)) (fun r5_0 r5_1 r5_3 r5_4 r5_5 r5_6 =>
zj48 N r5_0 r5_1 r5_3 r5_4 r5_5 r5_6 (fun r6_0 r6_1 r6_2 r6_3 r6_4 =>
k r6_0))
def zj89 (N : Nat) (self : ByteArray → (Tr → ByteArray → Option β) → Option β) (a0 : ByteArray) (k : Tr → ByteArray → Option β) : Option β :=
(cond ((a0.toList == ByteArray.empty.toList))
(k Tr.nil ByteArray.empty)
((gd ((decide (0 < (a0.size : Int))))
((cond (((bt a0 0) == 48))
((gd ((decide (1 ≤ (a0.size : Int))))
(k ((Tr.node ((bt a0 0)) 0 Tr.nil Tr.nil)) ((a0.extract (Int.toNat 1) a0.size)))))
((cond (((bt a0 0) == 49))
((gd ((decide (1 ≤ (a0.size : Int))))
(k ((Tr.node ((bt a0 0)) 0 Tr.nil Tr.nil)) ((a0.extract (Int.toNat 1) a0.size)))))
((cond (((bt a0 0) != 65))
((cond (((bt a0 0) != 66))
(k Tr.nil ByteArray.empty)
((cond ((decide ((a0.size : Int) < 2)))
(k Tr.nil ByteArray.empty)
((gd ((decide (1 < (a0.size : Int))))
(strings_IndexByte N ((strOf [48, 49, 50, 51, 52, 53, 54, 55, 56, 57, 97, 98, 99, 100, 101, 102])) ((bt a0 1)) fun r3 =>
(cond ((decide (r3 < 0)))
(k Tr.nil ByteArray.empty)
((gd ((decide (2 ≤ (a0.size : Int))))
(self ((a0.extract (Int.toNat 2) a0.size)) fun r4 r5 =>
(cond ((Tr.isNil r4))
(k Tr.nil ByteArray.empty)
(self r5 fun r6 r7 =>
(cond ((Tr.isNil r6))
(k Tr.nil ByteArray.empty)
(k ((Tr.node ((bt a0 0)) r3 r4 r6)) r7)))))))))))))))
((cond ((decide ((a0.size : Int) < 2)))
(k Tr.nil ByteArray.empty)
((gd ((decide (1 < (a0.size : Int))))
(strings_IndexByte N ((strOf [48, 49, 50, 51, 52, 53, 54, 55, 56, 57, 97, 98, 99, 100, 101, 102])) ((bt a0 1)) fun r8 =>
(cond ((decide (r8 < 0)))
(k Tr.nil ByteArray.empty)
((gd ((decide (2 ≤ (a0.size : Int))))
(self ((a0.extract (Int.toNat 2) a0.size)) fun r9 r10 =>
(cond ((Tr.isNil r9))
(k Tr.nil ByteArray.empty)
(self r10 fun r11 r12 =>
(cond ((Tr.isNil r11))
(k Tr.nil ByteArray.empty)
(k ((Tr.node ((bt a0 0)) r8 r9 r11)) r12))))))))))))))))))))))
def zj90 (N : Nat) : Nat → ByteArray → (Tr → ByteArray → Option β) → Option β
  | 0, _, _ => none
  | F + 1, a0, k => zj89 N (zj90 N F) a0 k
def zj91 (N : Nat) (a0 : ByteArray) (k : Tr → ByteArray → Option β) : Option β := zj90 N N a0 k
def zj92 (N : Nat) (a0 : ByteArray) (k : Tr → Bool → Option β) : Option β :=
(cond ((decide ((a0.size : Int) > 100)))
(k Tr.nil false)
(zj91 N a0 fun r3 r4 =>
(cond ((!(Tr.isNil r3)))
(k r3 ((r4.toList == ByteArray.empty.toList)))
(k r3 false))))
def zj93 (N : Nat) (a0 : Int) (a1 : Int) (k : Bool → Option β) : Option β :=
(cond ((decide (a1 ≥ 0)))
((gd ((decide (0 ≤ a0)))
(k ((decide (a1 < (shlI .i64 1 a0)))))))
(k false))
def zj94 (N : Nat)  (v0 : Int) (v1 : Int) (v2 : Tr) (v3 : Int) (rec_ : Int → Int → Tr → Int → Option β) (k0 : Tr → Int → Option β) : Option β :=
(gd ((!(Tr.isNil v2)))
((gd ((!(Tr.isNil v2)))
((gd ((!(Tr.isNil v2)))
((cond ((!(Tr.isNil ((Tr.l v2)))))
((gd ((!(Tr.isNil v2)))
((gd ((!(Tr.isNil v2)))
((gd ((!(Tr.isNil v2)))
((cond (((Tr.a v2) == 66))
((gd ((!(Tr.isNil v2)))
((gd ((!(Tr.isNil v2)))
((gd ((!(Tr.isNil v2)))
((gd ((decide (0 ≤ v1)))
((cond (((bits .and .i64 (shrI .i64 (Tr.b v2) v1) 1) == 1))
((gd ((!(Tr.isNil v2)))
((gd ((!(Tr.isNil v2)))
((gd ((!(Tr.isNil v2)))
(rec_ v0 v1 ((Tr.r v2)) ((w64 (v3 + 1))))))))))
((gd ((!(Tr.isNil v2)))
((gd ((!(Tr.isNil v2)))
((gd ((!(Tr.isNil v2)))
(rec_ v0 v1 ((Tr.l v2)) ((w64 (v3 + 1))))))))))))))))))))
((gd ((!(Tr.isNil v2)))
((gd ((!(Tr.isNil v2)))
((gd ((!(Tr.isNil v2)))
((gd ((decide (0 ≤ v0)))
((cond (((bits .and .i64 (shrI .i64 (Tr.b v2) v0) 1) == 1))
((gd ((!(Tr.isNil v2)))
((gd ((!(Tr.isNil v2)))
((gd ((!(Tr.isNil v2)))
(rec_ v0 v1 ((Tr.r v2)) ((w64 (v3 + 1))))))))))
((gd ((!(Tr.isNil v2)))
((gd ((!(Tr.isNil v2)))
((gd ((!(Tr.isNil v2)))
(rec_ v0 v1 ((Tr.l v2)) ((w64 (v3 + 1))))))))))))))))))))))))))))
(k0 v2 v3))))))))
def zj95 (N : Nat)  : Nat → Int → Int → Tr → Int → (Tr → Int → Option β) → Option β
  | 0, _, _, _, _, _ => none
  | F + 1, v0, v1, v2, v3, k0 => zj94 N  v0 v1 v2 v3 (fun v0 v1 v2 v3 => zj95 N  F v0 v1 v2 v3 k0) k0
def zj96 (N : Nat) (a0 : ByteArray) (a1 : Int) (a2 : Int) (k : Int → Int → Bool → Option β) : Option β :=
zj92 N a0 fun r6 r7 =>
(cond (!r7)
(k 0 0 false)
(zj93 N 2 a1 fun r8 =>
(cond (!r8)
(k 0 0 false)
(zj93 N 2 a2 fun r9 =>
(cond (!r9)
(k 0 0 false)
(zj95 N  N a1 a2 r6 0 (fun e10_0 e10_1 =>
(gd ((!(Tr.isNil e10_0)))
((gd ((!(Tr.isNil e10_0)))
((gd ((!(Tr.isNil e10_0)))
(k ((w64 ((w8 ((Tr.a e10_0) - 48))))) e10_1 true)))))))))))))
def zj97 (N : Nat) (a0 : Int) (a1 : Int) (a2 : Int) (k : Bool → Option β) : Option β :=
zj30 N a0 a1 fun r4 =>
(cond r4
(zj93 N a0 a2 fun r5 =>
k r5)
(k false))
def zj98 (N : Nat) (a0 : Int) (a1 : Int) (a2 : Int) (k : Int → Option β) : Option β :=
zj97 N a0 a1 a2 fun r4 =>
(cond (!r4)
(k (-1))
(zj38 N a0 a1 a2 fun r5 =>
k r5))
def zj99 (N : Nat)  (v0 : Int) (v1 : Int) (v2 : Int) (v3 : Int) (v4 : Int) (v5 : List Int) (rec_ : Int → Int → Int → Int → Int → List Int → Option β) (k0 : List Int → Option β) : Option β :=
(cond ((decide (v2 < v1)))
((gd ((decide (0 ≤ v0)))
((gd ((decide (0 ≤ (bits .and .i64 v2 (w64 ((shlI .i64 1 v0) - 1))))))
((gd ((decide ((bits .and .i64 v2 (w64 ((shlI .i64 1 v0) - 1))) < (v5.length : Int))))
((gd ((decide (0 ≤ v0)))
(zj38 N v3 v4 v2 fun r5 =>
(gd ((decide (0 ≤ (shrI .i64 v2 v0))))
((gd ((decide (0 ≤ (bits .and .i64 v2 (w64 ((shlI .i64 1 v0) - 1))))))
((gd ((decide ((bits .and .i64 v2 (w64 ((shlI .i64 1 v0) - 1))) < (v5.length : Int))))
(rec_ v0 v1 ((w64 (v2 + 1))) v3 v4 ((wr v5 (bits .and .i64 v2 (w64 ((shlI .i64 1 v0) - 1))) (bits .or .i64 (rd 0 v5 (bits .and .i64 v2 (w64 ((shlI .i64 1 v0) - 1)))) (shlI .i64 r5 (shrI .i64 v2 v0))))))))))))))))))))
(k0 v5))
def zj100 (N : Nat)  : Nat → Int → Int → Int → Int → Int → List Int → (List Int → Option β) → Option β
  | 0, _, _, _, _, _, _, _ => none
  | F + 1, v0, v1, v2, v3, v4, v5, k0 => zj99 N  v0 v1 v2 v3 v4 v5 (fun v0 v1 v2 v3 v4 v5 => zj100 N  F v0 v1 v2 v3 v4 v5 k0) k0
def zj101 (N : Nat) (a0 : Int) (a1 : Int) (a2 : Int) (k : List Int → Option β) : Option β :=
(gd ((decide (0 ≤ a2)))
((gd ((decide (0 ≤ (shlI .i64 1 a2))))
((gd ((decide ((shlI .i64 1 a2) ≤ (shlI .i64 1 a2))))
((gd ((decide (8 * (shlI .i64 1 a2) ≤ 281474976710656)))
(zj29 N a0 a1 fun r4 =>
zj100 N  N a2 r4 0 a0 a1 ((List.replicate (Int.toNat (shlI .i64 1 a2)) (0 : Int))) (fun e6_0 =>
k e6_0)))))))))
def zj102 (N : Nat) (a0 : Int) (a1 : Int) (a2 : Int) (k : List Int → Bool → Option β) : Option β :=
zj31 N a0 a1 a2 fun r5 =>
(cond (!r5)
(k (([] : List Int)) false)
(zj101 N a0 a1 a2 fun r6 =>
k r6 true))
def zj103 (N : Nat) (a0 : Int) (k : Bool → Option β) : Option β :=
(cond ((a0 == 0))
(k true)
(k ((a0 == 1))))
def zj104 (N : Nat) (a0 : Int) (a1 : Int) (a2 : Int) (a3 : Int) (a4 : Int) (a5 : Int) (k : Bool → Option β) : Option β :=
(gd ((decide (0 ≤ a2)))
(zj38 N a0 a1 ((bits .or .i64 (bits .and .i64 a4 (w64 ((shlI .i64 1 a2) - 1))) (bits .andNot .i64 a5 (w64 ((shlI .i64 1 a2) - 1))))) fun r7 =>
(cond ((r7 != a3))
(k true)
(zj38 N a0 a1 ((bits .or .i64 (bits .and .i64 a5 (w64 ((shlI .i64 1 a2) - 1))) (bits .andNot .i64 a4 (w64 ((shlI .i64 1 a2) - 1))))) fun r8 =>
k ((r8 != a3))))))
def zj105 (N : Nat) (a0 : Int) (c0 : Int) (c1 : Int) (c2 : Int) (c3 : Int) (c4 : List Int) (c5 : Int) (k : Bool → Option β) : Option β :=
zj104 N c0 c1 c2 c3 a0 c5 fun r2 =>
k (!r2)
def zj106 (N : Nat) (a0 : Int) (k : Bool → Option β) : Option β :=
(cond ((decide (a0 < 0)))
(k true)
(k (((shrI .i64 a0 32) != 0))))
def zj107 (N : Nat) (a1 : (Int → (Bool → Option β) → Option β)) (v0 : List Int) (v1 : Int) (v2 : Int) (rec_ : List Int → Int → Int → Option β) (k0 : Int → Option β) (k1 : Option β) : Option β :=
(cond ((decide (v2 < v1)))
((gd ((decide (0 ≤ v2)))
((gd ((decide (v2 < (v0.length : Int))))
(a1 ((rd 0 v0 v2)) fun r3 =>
(cond r3
(k0 v2)
(rec_ v0 v1 ((w64 (v2 + 1))))))))))
(k1 ))
def zj108 (N : Nat) (a1 : (Int → (Bool → Option β) → Option β)) : Nat → List Int → Int → Int → (Int → Option β) → (Option β) → Option β
  | 0, _, _, _, _, _ => none
  | F + 1, v0, v1, v2, k0, k1 => zj107 N a1 v0 v1 v2 (fun v0 v1 v2 => zj108 N a1 F v0 v1 v2 k0 k1) k0 k1
def zj109 (N : Nat) (a0 : List Int) (a1 : (Int → (Bool → Option β) → Option β)) (k : Int → Option β) : Option β :=
zj108 N a1 N a0 ((a0.length : Int)) 0 (fun e4_0 =>
k e4_0) (k (-1))
def zj110 (N : Nat) (a0 : List Int) (a1 : (Int → (Bool → Option β) → Option β)) (k : Bool → Option β) : Option β :=
zj109 N a0 a1 fun r3 =>
k ((decide (r3 ≥ 0)))
def zj111 (s0 : Int) (s1 : Int) (s2 : Int) (s3 : Int) (s4 : List Int) (s5 : List Int) (s6 : Int) (u0 : Int) (u1 : Int) (u2 : Int) (u3 : Int) (u4 : List Int) (u5 : List Int) (u6 : Int) (K : Option β) : Option β :=
(gd (s0 == u0) (gd (s1 == u1) (gd (s2 == u2) (gd (s3 == u3) (gd (s4 == u4) (gd (s5 == u5) (gd (s6 == u6) K)))))))
def zj112 (N : Nat) (self : Int → Int → Int → Int → Int → List Int → List Int → (Int → Int → Int → Int → List Int → List Int → Option β) → Option β)  (v0 : Int) (v1 : Int) (v2 : Int) (v3 : Int) (v4 : List Int) (v5 : List Int) (v6 : Int) (rec_ : Int → Int → Int → Int → List Int → List Int → Int → Option β) (k0 : Int → Int → Int → Int → List Int → List Int → Option β) : Option β :=
zj29 N v0 v1 fun r9 =>
(cond ((decide (v6 < r9)))
(zj29 N v0 v1 fun r10 =>
(cond ((decide ((w64 ((w64 ((v5.length : Int) + r10)) - v6)) > (v4.length : Int))))
(zj38 N v0 v1 v6 fun r11 =>
(cond ((r11 == v3))
(zj110 N v5 (fun x0 k => zj105 N x0 v0 v1 v2 v3 v4 v6 k) fun r12 =>
(cond (!r12)
(slices_Clone_Sint_int N v5 fun r13 =>
(gd ((decide ((r13.length + ((([] : List Int) ++ [v6])).length) * 8 ≤ 140737488355328)))
(self ((w64 (v6 + 1))) v0 v1 v2 v3 v4 ((r13 ++ (([] : List Int) ++ [v6]))) (fun r14_0 r14_1 r14_2 r14_3 r14_4 r14_5 =>
slices_Clone_Sint_int N v5 fun r15 =>
(gd ((decide ((r15.length + ((([] : List Int) ++ [v6])).length) * 8 ≤ 140737488355328)))
(self ((w64 (v6 + 1))) v0 v1 v2 v3 v4 ((r15 ++ (([] : List Int) ++ [v6]))) (fun r16_0 r16_1 r16_2 r16_3 r16_4 r16_5 =>
(zj111 r14_0 r14_1 r14_2 r14_3 r14_4 v5 v6 r16_0 r16_1 r16_2 r16_3 r16_4 v5 v6
(rec_ r14_0 r14_1 r14_2 r14_3 r14_4 v5 ((w64 (v6 + 1))))))))))))
(rec_ v0 v1 v2 v3 v4 v5 ((w64 (v6 + 1))))))
(rec_ v0 v1 v2 v3 v4 v5 ((w64 (v6 + 1))))))
(k0 v0 v1 v2 v3 v4 v5)))
(k0 v0 v1 v2 v3 v4 v5))
def zj113 (N : Nat) (self : Int → Int → Int → Int → Int → List Int → List Int → (Int → Int → Int → Int → List Int → List Int → Option β) → Option β)  : Nat → Int → Int → Int → Int → List Int → List Int → Int → (Int → Int → Int → Int → List Int → List Int → Option β) → Option β
  | 0, _, _, _, _, _, _, _, _ => none
  | F + 1, v0, v1, v2, v3, v4, v5, v6, k0 => zj112 N self  v0 v1 v2 v3 v4 v5 v6 (fun v0 v1 v2 v3 v4 v5 v6 => zj113 N self  F v0 v1 v2 v3 v4 v5 v6 k0) k0
def zj114 (N : Nat) (self : Int → Int → Int → Int → Int → List Int → List Int → (Int → Int → Int → Int → List Int → List Int → Option β) → Option β) (a0 : Int) (a1 : Int) (a2 : Int) (a3 : Int) (a4 : Int) (a5 : List Int) (a6 : List Int) (k0 : Int → Int → Int → Int → List Int → List Int → Option β) : Option β :=
(cond ((decide ((a6.length : Int) > (a5.length : Int))))
(slices_Clone_Sint_int N a6 fun r8 =>
zj113 N self  N a1 a2 a3 a4 r8 a6 a0 (fun e17_0 e17_1 e17_2 e17_3 e17_4 e17_5 =>
k0 e17_0 e17_1 e17_2 e17_3 e17_4 e17_5))
(zj113 N self  N a1 a2 a3 a4 a5 a6 a0 (fun e18_0 e18_1 e18_2 e18_3 e18_4 e18_5 =>
k0 e18_0 e18_1 e18_2 e18_3 e18_4 e18_5)))
def zj115 (N : Nat) : Nat → Int → Int → Int → Int → Int → List Int → List Int → (Int → Int → Int → Int → List Int → List Int → Option β) → Option β
  | 0, _, _, _, _, _, _, _, _ => none
  | F + 1, a0, a1, a2, a3, a4, a5, a6, k0 => zj114 N (zj115 N F) a0 a1 a2 a3 a4 a5 a6 k0
def zj116 (N : Nat) (a0 : Int) (a1 : Int) (a2 : Int) (a3 : Int) (a4 : Int) (a5 : List Int) (a6 : List Int) (k0 : Int → Int → Int → Int → List Int → List Int → Option β) : Option β := zj115 N N a0 a1 a2 a3 a4 a5 a6 k0
def zj117 (N : Nat) (a0 : Int) (a1 : Int) (a2 : Int) (a3 : Int) (k : List Int → Bool → Option β) : Option β :=
zj31 N a0 a1 a2 fun r6 =>
(cond (!r6)
(k (([] : List Int)) false)
((cond ((decide (a0 > 4)))
(k (([] : List Int)) false)
(zj103 N a3 fun r7 =>
(cond (!r7)
(k (([] : List Int)) false)
(zj116 N 0 a0 a1 a2 a3 (([] : List Int)) (([] : List Int)) (fun r8_0 r8_1 r8_2 r8_3 r8_4 r8_5 =>
k r8_4 true)))))))
def zj118 (N : Nat) (a0 : ByteArray) (k : Bool → Option β) : Option β :=
zj92 N a0 fun r2 r3 =>
k r3
def zj119 (N : Nat) (self : Tr → (Int → Option β) → Option β) (a0 : Tr) (k : Int → Option β) : Option β :=
(gd ((!(Tr.isNil a0)))
((gd ((!(Tr.isNil a0)))
((gd ((!(Tr.isNil a0)))
((cond ((Tr.isNil ((Tr.l a0))))
(k 0)
((gd ((!(Tr.isNil a0)))
((gd ((!(Tr.isNil a0)))
((gd ((!(Tr.isNil a0)))
((gd ((!(Tr.isNil a0)))
((gd ((!(Tr.isNil a0)))
((gd ((!(Tr.isNil a0)))
(self ((Tr.l a0)) fun r2 =>
self ((Tr.r a0)) fun r3 =>
k ((w64 (1 + (mxI r2 r3))))))))))))))))))))))))
def zj120 (N : Nat) : Nat → Tr → (Int → Option β) → Option β
  | 0, _, _ => none
  | F + 1, a0, k => zj119 N (zj120 N F) a0 k
def zj121 (N : Nat) (a0 : Tr) (k : Int → Option β) : Option β := zj120 N N a0 k
def zj122 (N : Nat) (a0 : ByteArray) (k : Int → Option β) : Option β :=
zj92 N a0 fun r2 r3 =>
(cond (!r3)
(k (-1))
(zj121 N r2 fun r4 =>
k r4))
def zj123 (N : Nat) (self : Tr → (Int → Option β) → Option β) (a0 : Tr) (k : Int → Option β) : Option β :=
(gd ((!(Tr.isNil a0)))
((gd ((!(Tr.isNil a0)))
((gd ((!(Tr.isNil a0)))
((cond ((Tr.isNil ((Tr.l a0))))
(k 1)
((gd ((!(Tr.isNil a0)))
((gd ((!(Tr.isNil a0)))
((gd ((!(Tr.isNil a0)))
((gd ((!(Tr.isNil a0)))
((gd ((!(Tr.isNil a0)))
((gd ((!(Tr.isNil a0)))
(self ((Tr.l a0)) fun r2 =>
self ((Tr.r a0)) fun r3 =>
k ((w64 (r2 + r3)))))))))))))))))))))))
def zj124 (N : Nat) : Nat → Tr → (Int → Option β) → Option β
  | 0, _, _ => none
  | F + 1, a0, k => zj123 N (zj124 N F) a0 k
def zj125 (N : Nat) (a0 : Tr) (k : Int → Option β) : Option β := zj124 N N a0 k
def zj126 (N : Nat) (a0 : ByteArray) (k : Int → Option β) : Option β :=
zj92 N a0 fun r2 r3 =>
(cond (!r3)
(k (-1))
(zj125 N r2 fun r4 =>
k r4))
def zj127 (N : Nat) (a0 : Int) (k : Int → Option β) : Option β :=
(cond ((decide (a0 ≥ 4294967296)))
((cond ((decide ((shrI .u64 a0 32) ≥ 65536)))
((cond ((decide ((shrI .u64 (shrI .u64 a0 32) 16) ≥ 256)))
((gd ((decide (0 ≤ (w8 ((shrI .u64 (shrI .u64 (shrI .u64 a0 32) 16) 8))))))
((gd ((decide ((w8 ((shrI .u64 (shrI .u64 (shrI .u64 a0 32) 16) 8))) < (len8.size : Int))))
(k ((w64 (56 + (w64 ((bt len8 (w8 ((shrI .u64 (shrI .u64 (shrI .u64 a0 32) 16) 8))))))))))))))
((gd ((decide (0 ≤ (w8 ((shrI .u64 (shrI .u64 a0 32) 16))))))
((gd ((decide ((w8 ((shrI .u64 (shrI .u64 a0 32) 16))) < (len8.size : Int))))
(k ((w64 (48 + (w64 ((bt len8 (w8 ((shrI .u64 (shrI .u64 a0 32) 16))))))))))))))))
((cond ((decide ((shrI .u64 a0 32) ≥ 256)))
((gd ((decide (0 ≤ (w8 ((shrI .u64 (shrI .u64 a0 32) 8))))))
((gd ((decide ((w8 ((shrI .u64 (shrI .u64 a0 32) 8))) < (len8.size : Int))))
(k ((w64 (40 + (w64 ((bt len8 (w8 ((shrI .u64 (shrI .u64 a0 32) 8))))))))))))))
((gd ((decide (0 ≤ (w8 ((shrI .u64 a0 32))))))
((gd ((decide ((w8 ((shrI .u64 a0 32))) < (len8.size : Int))))
(k ((w64 (32 + (w64 ((bt len8 (w8 ((shrI .u64 a0 32))))))))))))))))))
((cond ((decide (a0 ≥ 65536)))
((cond ((decide ((shrI .u64 a0 16) ≥ 256)))
((gd ((decide (0 ≤ (w8 ((shrI .u64 (shrI .u64 a0 16) 8))))))
((gd ((decide ((w8 ((shrI .u64 (shrI .u64 a0 16) 8))) < (len8.size : Int))))
(k ((w64 (24 + (w64 ((bt len8 (w8 ((shrI .u64 (shrI .u64 a0 16) 8))))))))))))))
((gd ((decide (0 ≤ (w8 ((shrI .u64 a0 16))))))
((gd ((decide ((w8 ((shrI .u64 a0 16))) < (len8.size : Int))))
(k ((w64 (16 + (w64 ((bt len8 (w8 ((shrI .u64 a0 16))))))))))))))))
((cond ((decide (a0 ≥ 256)))
((gd ((decide (0 ≤ (w8 ((shrI .u64 a0 8))))))
((gd ((decide ((w8 ((shrI .u64 a0 8))) < (len8.size : Int))))
(k ((w64 (8 + (w64 ((bt len8 (w8 ((shrI .u64 a0 8))))))))))))))
((gd ((decide (0 ≤ (w8 (a0)))))
((gd ((decide ((w8 (a0)) < (len8.size : Int))))
(k ((w64 (0 + (w64 ((bt len8 (w8 (a0))))))))))))))))))
def zj128 (N : Nat)  (v0 : Int) (v1 : List Int) (v2 : Int) (v3 : Int) (v4 : Mp) (rec_ : Int → List Int → Int → Int → Mp → Option β) (k0 : List Int → Int → Int → Mp → Option β) : Option β :=
(cond ((v0 != 0))
(zj127 N ((wu64 (v0))) fun r3 =>
(cond ((!(hasM ⟨false, false⟩ v4 r3 0)))
(k0 v1 v2 v3 ((putM ⟨false, false⟩ v4 r3 0 v0)))
(rec_ ((bits .xor .i64 v0 (getM ⟨false, false⟩ v4 r3 0))) v1 v2 v3 v4)))
(k0 v1 v2 v3 v4))
def zj129 (N : Nat)  : Nat → Int → List Int → Int → Int → Mp → (List Int → Int → Int → Mp → Option β) → Option β
  | 0, _, _, _, _, _, _ => none
  | F + 1, v0, v1, v2, v3, v4, k0 => zj128 N  v0 v1 v2 v3 v4 (fun v0 v1 v2 v3 v4 => zj129 N  F v0 v1 v2 v3 v4 k0) k0
def zj130 (N : Nat)  (v0 : List Int) (v1 : Int) (v2 : Int) (v3 : Mp) (rec_ : List Int → Int → Int → Mp → Option β) (k0 : Mp → Option β) : Option β :=
(cond ((decide (v2 < v1)))
((gd ((decide (0 ≤ v2)))
((gd ((decide (v2 < (v0.length : Int))))
(zj129 N  N ((rd 0 v0 v2)) v0 v1 v2 v3 (fun e4_0 e4_1 e4_2 e4_3 =>
rec_ e4_0 e4_1 ((w64 (e4_2 + 1))) e4_3))))))
(k0 v3))
def zj131 (N : Nat)  : Nat → List Int → Int → Int → Mp → (Mp → Option β) → Option β
  | 0, _, _, _, _, _ => none
  | F + 1, v0, v1, v2, v3, k0 => zj130 N  v0 v1 v2 v3 (fun v0 v1 v2 v3 => zj131 N  F v0 v1 v2 v3 k0) k0
def zj132 (N : Nat) (a0 : List Int) (k : Int → Option β) : Option β :=
(cond ((decide ((a0.length : Int) > 32)))
(k (-1))
(zj110 N a0 (fun x0 k => zj106 N x0 k) fun r2 =>
(cond r2
(k (-1))
(zj131 N  N a0 ((a0.length : Int)) 0 (([] : Mp)) (fun e5_0 =>
k ((e5_0.length : Int)))))))
def zj133 (N : Nat)  (v0 : Int) (v1 : Int) (v2 : List Int) (v3 : Int) (v4 : Int) (v5 : List Int) (rec_ : Int → Int → List Int → Int → Int → List Int → Option β) (k0 : List Int → Int → Int → List Int → Option β) : Option β :=
(cond ((decide (v1 > 0)))
(zj4 N v2 v3 v4 (fun r11_0 r11_1 r11_2 r11_3 =>
(cond ((v0 == 1))
((cond ((v0 == 2))
((gd ((decide ((v5.length + ((([] : List Int) ++ [(w8 ((w64 (97 + (remI (remI r11_0 2) 4)))))])).length) * 1 ≤ 140737488355328)))
(rec_ v0 ((w64 (v1 - 1))) r11_1 r11_2 r11_3 ((v5 ++ (([] : List Int) ++ [(w8 ((w64 (97 + (remI (remI r11_0 2) 4)))))]))))))
((gd ((decide ((v5.length + ((([] : List Int) ++ [(w8 ((remI r11_0 2)))])).length) * 1 ≤ 140737488355328)))
(rec_ v0 ((w64 (v1 - 1))) r11_1 r11_2 r11_3 ((v5 ++ (([] : List Int) ++ [(w8 ((remI r11_0 2)))]))))))))
((cond ((v0 == 2))
((gd ((decide ((v5.length + ((([] : List Int) ++ [(w8 ((w64 (97 + (remI r11_0 4)))))])).length) * 1 ≤ 140737488355328)))
(rec_ v0 ((w64 (v1 - 1))) r11_1 r11_2 r11_3 ((v5 ++ (([] : List Int) ++ [(w8 ((w64 (97 + (remI r11_0 4)))))]))))))
((gd ((decide ((v5.length + ((([] : List Int) ++ [(w8 (r11_0))])).length) * 1 ≤ 140737488355328)))
(rec_ v0 ((w64 (v1 - 1))) r11_1 r11_2 r11_3 ((v5 ++ (([] : List Int) ++ [(w8 (r11_0))])))))))))))
(k0 v2 v3 v4 v5))
def zj134 (N : Nat)  : Nat → Int → Int → List Int → Int → Int → List Int → (List Int → Int → Int → List Int → Option β) → Option β
  | 0, _, _, _, _, _, _, _ => none
  | F + 1, v0, v1, v2, v3, v4, v5, k0 => zj133 N  v0 v1 v2 v3 v4 v5 (fun v0 v1 v2 v3 v4 v5 => zj134 N  F v0 v1 v2 v3 v4 v5 k0) k0
def zj135 (N : Nat) (a0 : Int) (a1 : List Int) (a2 : Int) (a3 : Int) (k0 : ByteArray → List Int → Int → Int → Option β) : Option β :=
zj5 N 4 a1 a2 a3 (fun r9_0 r9_1 r9_2 r9_3 =>
zj5 N ((w64 (a0 + 1))) r9_1 r9_2 r9_3 (fun r10_0 r10_1 r10_2 r10_3 =>
zj134 N  N r9_0 r10_0 r10_1 r10_2 r10_3 (([] : List Int)) (fun e12_0 e12_1 e12_2 e12_3 =>
k0 ((strOf e12_3)) e12_0 e12_1 e12_2)))
def zj136 (N : Nat) (a0 : ByteArray) (a1 : List Int) (a2 : Int) (a3 : Int) (k0 : ByteArray → List Int → Int → Int → Option β) : Option β :=
(cond (((a0.size : Int) == 0))
(zj135 N 3 a1 a2 a3 (fun r13_0 r13_1 r13_2 r13_3 =>
k0 r13_0 r13_1 r13_2 r13_3))
(zj5 N ((a0.size : Int)) a1 a2 a3 (fun r14_0 r14_1 r14_2 r14_3 =>
zj5 N 4 r14_1 r14_2 r14_3 (fun r15_0 r15_1 r15_2 r15_3 =>
(cond ((r15_0 == 0))
((gd ((decide (0 ≤ r14_0)))
((gd ((decide (r14_0 ≤ (a0.size : Int))))
((gd ((decide (0 ≤ (w64 (r14_0 + 1)))))
((gd ((decide ((w64 (r14_0 + 1)) ≤ (a0.size : Int))))
((gd ((decide (((a0.extract 0 (Int.toNat r14_0))).size + ((a0.extract (Int.toNat (w64 (r14_0 + 1))) a0.size)).size ≤ 9223372036854775807)))
(k0 (((a0.extract 0 (Int.toNat r14_0)) ++ (a0.extract (Int.toNat (w64 (r14_0 + 1))) a0.size))) r15_1 r15_2 r15_3)))))))))))
((cond ((r15_0 == 1))
((gd ((decide (0 ≤ r14_0)))
((gd ((decide (r14_0 ≤ (a0.size : Int))))
((gd ((decide (0 ≤ r14_0)))
((gd ((decide (r14_0 ≤ (a0.size : Int))))
(zj4 N r15_1 r15_2 r15_3 (fun r16_0 r16_1 r16_2 r16_3 =>
(gd ((decide (((a0.extract 0 (Int.toNat r14_0))).size + ((strOf ((([] : List Int) ++ [(w8 (r16_0))])))).size ≤ 9223372036854775807)))
((gd ((decide ((((a0.extract 0 (Int.toNat r14_0)) ++ (strOf ((([] : List Int) ++ [(w8 (r16_0))]))))).size + ((a0.extract (Int.toNat r14_0) a0.size)).size ≤ 9223372036854775807)))
(k0 ((((a0.extract 0 (Int.toNat r14_0)) ++ (strOf ((([] : List Int) ++ [(w8 (r16_0))])))) ++ (a0.extract (Int.toNat r14_0) a0.size))) r16_1 r16_2 r16_3))))))))))))))
((cond ((r15_0 == 2))
((gd ((decide (0 ≤ r14_0)))
((gd ((decide (r14_0 ≤ (a0.size : Int))))
(k0 ((a0.extract 0 (Int.toNat r14_0))) r15_1 r15_2 r15_3)))))
((gd ((decide (0 ≤ r14_0)))
((gd ((decide (r14_0 ≤ (a0.size : Int))))
((gd ((decide (0 ≤ r14_0)))
((gd ((decide (r14_0 < (a0.size : Int))))
((gd ((decide (0 ≤ (w64 (r14_0 + 1)))))
((gd ((decide ((w64 (r14_0 + 1)) ≤ (a0.size : Int))))
(zj5 N 255 r15_1 r15_2 r15_3 (fun r17_0 r17_1 r17_2 r17_3 =>
(gd ((decide (((a0.extract 0 (Int.toNat r14_0))).size + ((strOf ((([] : List Int) ++ [(w8 ((bits .xor .i64 (w64 ((bt a0 r14_0))) (w64 (1 + r17_0)))))])))).size ≤ 9223372036854775807)))
((gd ((decide ((((a0.extract 0 (Int.toNat r14_0)) ++ (strOf ((([] : List Int) ++ [(w8 ((bits .xor .i64 (w64 ((bt a0 r14_0))) (w64 (1 + r17_0)))))]))))).size + ((a0.extract (Int.toNat (w64 (r14_0 + 1))) a0.size)).size ≤ 9223372036854775807)))
(k0 ((((a0.extract 0 (Int.toNat r14_0)) ++ (strOf ((([] : List Int) ++ [(w8 ((bits .xor .i64 (w64 ((bt a0 r14_0))) (w64 (1 + r17_0)))))])))) ++ (a0.extract (Int.toNat (w64 (r14_0 + 1))) a0.size))) r17_1 r17_2 r17_3)))))))))))))))))))))))))))
def zj137 (N : Nat) (a0 : List Int) (k : ByteArray → Option β) : Option β :=
zj26 N a0 fun r2 r3 r4 =>
zj87 N r2 r3 r4 fun r5 r6 =>
(cond (!r6)
(k ((strOf [65, 49, 48, 49])))
(zj3 N a0 (fun r7_0 r7_1 r7_2 =>
zj24 N 8 r7_0 r7_1 r7_2 (fun r8_0 r8_1 r8_2 r8_3 =>
(cond r8_0
(zj136 N r5 r8_1 r8_2 r8_3 (fun r9_0 r9_1 r9_2 r9_3 =>
k r9_0))
(k r5))))))
def zj138 (N : Nat) (a0 : List Int) (k : ByteArray → Option β) : Option β :=
zj137 N a0 fun r2 =>
k r2
def zj139 (N : Nat) (a0 : List Int) (k : ByteArray → Int → Int → Option β) : Option β :=
zj137 N a0 fun r4 =>
k r4 ((w64 ((remI (a0.length : Int) 5) - 1))) ((remI (a0.length : Int) 4))
def zj140 (N : Nat) (a0 : Int) (k : Int → Option β) : Option β :=
(cond ((decide (a0 ≥ 48)))
((cond ((decide (a0 ≤ 57)))
(k ((w64 ((w8 (a0 - 48))))))
((cond ((decide (a0 ≥ 97)))
((cond ((decide (a0 ≤ 102)))
(k ((w64 ((w64 ((w8 (a0 - 97)))) + 10))))
(k (-1))))
(k (-1))))))
((cond ((decide (a0 ≥ 97)))
((cond ((decide (a0 ≤ 102)))
(k ((w64 ((w64 ((w8 (a0 - 97)))) + 10))))
(k (-1))))
(k (-1)))))
def zj141 (N : Nat) (self : ByteArray → Int → (Int → Option β) → Option β) (a0 : ByteArray) (a1 : Int) (k : Int → Option β) : Option β :=
(cond ((decide (a1 ≥ (a0.size : Int))))
(k (-1))
((gd ((decide (0 ≤ a1)))
((gd ((decide (a1 < (a0.size : Int))))
((cond (((bt a0 a1) == 48))
(k ((w64 (a1 + 1))))
((gd ((decide (0 ≤ a1)))
((gd ((decide (a1 < (a0.size : Int))))
((cond (((bt a0 a1) == 49))
(k ((w64 (a1 + 1))))
((gd ((decide (0 ≤ a1)))
((gd ((decide (a1 < (a0.size : Int))))
((cond (((bt a0 a1) != 65))
((gd ((decide (0 ≤ a1)))
((gd ((decide (a1 < (a0.size : Int))))
((cond (((bt a0 a1) != 66))
(k (-1))
((cond ((decide ((w64 (a1 + 1)) ≥ (a0.size : Int))))
(k (-1))
((gd ((decide (0 ≤ (w64 (a1 + 1)))))
((gd ((decide ((w64 (a1 + 1)) < (a0.size : Int))))
(zj140 N ((bt a0 (w64 (a1 + 1)))) fun r3 =>
(cond ((decide (r3 < 0)))
(k (-1))
(self a0 ((w64 (a1 + 2))) fun r4 =>
(cond ((decide (r4 < 0)))
(k (-1))
(self a0 r4 fun r5 =>
k r5)))))))))))))))))
((cond ((decide ((w64 (a1 + 1)) ≥ (a0.size : Int))))
(k (-1))
((gd ((decide (0 ≤ (w64 (a1 + 1)))))
((gd ((decide ((w64 (a1 + 1)) < (a0.size : Int))))
(zj140 N ((bt a0 (w64 (a1 + 1)))) fun r6 =>
(cond ((decide (r6 < 0)))
(k (-1))
(self a0 ((w64 (a1 + 2))) fun r7 =>
(cond ((decide (r7 < 0)))
(k (-1))
(self a0 r7 fun r8 =>
k r8))))))))))))))))))))))))))))))
def zj142 (N : Nat) : Nat → ByteArray → Int → (Int → Option β) → Option β
  | 0, _, _, _ => none
  | F + 1, a0, a1, k => zj141 N (zj142 N F) a0 a1 k
def zj143 (N : Nat) (a0 : ByteArray) (a1 : Int) (k : Int → Option β) : Option β := zj142 N N a0 a1 k
def zj144 (N : Nat) (a0 : ByteArray) (k : Bool → Option β) : Option β :=
(cond ((decide ((a0.size : Int) ≤ 100)))
((cond ((decide ((a0.size : Int) > 0)))
(zj143 N a0 0 fun r2 =>
k ((r2 == (a0.size : Int))))
(k false)))
(k false))
def zj145 (N : Nat)  (v0 : ByteArray) (v1 : Int) (v2 : Int) (v3 : Int) (v4 : Int) (rec_ : ByteArray → Int → Int → Int → Int → Option β) (k0 : ByteArray → Int → Int → Option β) : Option β :=
(gd ((decide (0 ≤ v3)))
((gd ((decide (v3 < (v0.size : Int))))
((cond (((bt v0 v3) != 48))
((gd ((decide (0 ≤ v3)))
((gd ((decide (v3 < (v0.size : Int))))
((cond (((bt v0 v3) != 49))
((gd ((decide (0 ≤ (w64 (v3 + 1)))))
((gd ((decide ((w64 (v3 + 1)) < (v0.size : Int))))
(zj140 N ((bt v0 (w64 (v3 + 1)))) fun r9 =>
(gd ((decide (0 ≤ v1)))
((gd ((decide (0 ≤ v3)))
((gd ((decide (v3 < (v0.size : Int))))
((cond (((bt v0 v3) == 66))
((gd ((decide (0 ≤ v2)))
((cond (((bits .and .i64 (shrI .i64 r9 v2) 1) == 1))
(zj143 N v0 ((w64 (v3 + 2))) fun r10 =>
rec_ v0 v1 v2 r10 ((w64 (v4 + 1))))
(rec_ v0 v1 v2 ((w64 (v3 + 2))) ((w64 (v4 + 1))))))))
((cond (((bits .and .i64 (shrI .i64 r9 v1) 1) == 1))
(zj143 N v0 ((w64 (v3 + 2))) fun r11 =>
rec_ v0 v1 v2 r11 ((w64 (v4 + 1))))
(rec_ v0 v1 v2 ((w64 (v3 + 2))) ((w64 (v4 + 1))))))))))))))))))
(k0 v0 v3 v4)))))))
(k0 v0 v3 v4))))))
def zj146 (N : Nat)  : Nat → ByteArray → Int → Int → Int → Int → (ByteArray → Int → Int → Option β) → Option β
  | 0, _, _, _, _, _, _ => none
  | F + 1, v0, v1, v2, v3, v4, k0 => zj145 N  v0 v1 v2 v3 v4 (fun v0 v1 v2 v3 v4 => zj146 N  F v0 v1 v2 v3 v4 k0) k0
def zj147 (N : Nat) (a0 : ByteArray) (a1 : Int) (a2 : Int) (k : Int → Int → Bool → Option β) : Option β :=
zj144 N a0 fun r6 =>
(cond (!r6)
(k 0 0 false)
(zj58 N a1 0 3 fun r7 =>
(cond (!r7)
(k 0 0 false)
(zj58 N a2 0 3 fun r8 =>
(cond (!r8)
(k 0 0 false)
(zj146 N  N a0 a1 a2 0 0 (fun e12_0 e12_1 e12_2 =>
(gd ((decide (0 ≤ e12_1)))
((gd ((decide (e12_1 < (e12_0.size : Int))))
(k ((w64 ((w8 ((bt e12_0 e12_1) - 48))))) e12_2 true)))))))))))
def zj148 (N : Nat) (self : ByteArray → Int → (Int → Option β) → Option β) (a0 : ByteArray) (a1 : Int) (k : Int → Option β) : Option β :=
(gd ((decide (0 ≤ a1)))
((gd ((decide (a1 < (a0.size : Int))))
((cond (((bt a0 a1) == 48))
(k 0)
((gd ((decide (0 ≤ a1)))
((gd ((decide (a1 < (a0.size : Int))))
((cond (((bt a0 a1) == 49))
(k 0)
(self a0 ((w64 (a1 + 2))) fun r3 =>
zj143 N a0 ((w64 (a1 + 2))) fun r4 =>
self a0 r4 fun r5 =>
k ((w64 (1 + (mxI r3 r5))))))))))))))))
def zj149 (N : Nat) : Nat → ByteArray → Int → (Int → Option β) → Option β
  | 0, _, _, _ => none
  | F + 1, a0, a1, k => zj148 N (zj149 N F) a0 a1 k
def zj150 (N : Nat) (a0 : ByteArray) (a1 : Int) (k : Int → Option β) : Option β := zj149 N N a0 a1 k
def zj151 (N : Nat) (a0 : ByteArray) (k : Int → Option β) : Option β :=
zj144 N a0 fun r2 =>
(cond (!r2)
(k (-1))
(zj150 N a0 0 fun r3 =>
k r3))
def zj152 (N : Nat) (self : ByteArray → Int → (Int → Option β) → Option β) (a0 : ByteArray) (a1 : Int) (k : Int → Option β) : Option β :=
(gd ((decide (0 ≤ a1)))
((gd ((decide (a1 < (a0.size : Int))))
((cond (((bt a0 a1) == 48))
(k 1)
((gd ((decide (0 ≤ a1)))
((gd ((decide (a1 < (a0.size : Int))))
((cond (((bt a0 a1) == 49))
(k 1)
(self a0 ((w64 (a1 + 2))) fun r3 =>
zj143 N a0 ((w64 (a1 + 2))) fun r4 =>
self a0 r4 fun r5 =>
k ((w64 (r3 + r5)))))))))))))))
def zj153 (N : Nat) : Nat → ByteArray → Int → (Int → Option β) → Option β
  | 0, _, _, _ => none
  | F + 1, a0, a1, k => zj152 N (zj153 N F) a0 a1 k
def zj154 (N : Nat) (a0 : ByteArray) (a1 : Int) (k : Int → Option β) : Option β := zj153 N N a0 a1 k
def zj155 (N : Nat) (a0 : ByteArray) (k : Int → Option β) : Option β :=
zj144 N a0 fun r2 =>
(cond (!r2)
(k (-1))
(zj154 N a0 0 fun r3 =>
k r3))
def zj156 (N : Nat)  (v0 : List Int) (v1 : Int) (v2 : ByteArray) (v3 : Int) (v4 : Int) (v5 : Int) (v6 : Int) (rec_ : List Int → Int → ByteArray → Int → Int → Int → Int → Option β) (k0 : Bool → Option β) (k1 : List Int → Int → ByteArray → Int → Int → Int → Option β) : Option β :=
(gd ((decide (0 ≤ v5)))
((cond ((decide (v4 < (shlI .i64 1 v5))))
((gd ((decide (0 ≤ v1)))
((gd ((decide (0 ≤ v1)))
(zj96 N v2 ((bits .and .i64 v4 (w64 ((shlI .i64 1 v1) - 1)))) ((shrI .i64 v4 v1)) fun r12 r13 r14 =>
(cond (!r14)
(k0 false)
(zj98 N v5 v6 v4 fun r15 =>
(cond ((r12 != r15))
(k0 false)
((cond ((decide (r13 > v3)))
(k0 false)
(rec_ v0 v1 v2 v3 ((w64 (v4 + 1))) v5 v6)))))))))))
(k1 v0 v1 v2 v3 v5 v6))))
def zj157 (N : Nat)  : Nat → List Int → Int → ByteArray → Int → Int → Int → Int → (Bool → Option β) → (List Int → Int → ByteArray → Int → Int → Int → Option β) → Option β
  | 0, _, _, _, _, _, _, _, _, _ => none
  | F + 1, v0, v1, v2, v3, v4, v5, v6, k0, k1 => zj156 N  v0 v1 v2 v3 v4 v5 v6 (fun v0 v1 v2 v3 v4 v5 v6 => zj157 N  F v0 v1 v2 v3 v4 v5 v6 k0 k1) k0 k1
def zj158 (N : Nat) (a0 : List Int) (k : Bool → Option β) : Option β :=
zj0 N a0 fun r2 =>
(cond r2
(k true)
(zj27 N a0 fun r3 r4 r5 =>
zj57 N r3 r4 r5 fun r6 r7 =>
zj87 N r3 r4 r5 fun r8 r9 =>
zj88 N r3 r4 r5 fun r10 =>
(cond ((!(r6.toList == r8.toList)))
(k false)
((cond ((!(r7 == r9)))
(k false)
(zj78 N r3 r4 r5 fun r11 =>
(cond ((r10 != r11))
(k false)
((cond r7
(zj157 N  N a0 r5 r8 r10 0 r3 r4 (fun e16_0 =>
k e16_0) (fun e17_0 e17_1 e17_2 e17_3 e17_4 e17_5 =>
zj102 N e17_4 e17_5 e17_1 fun r18 r19 =>
zj117 N e17_4 e17_5 e17_1 0 fun r20 r21 =>
zj117 N e17_4 e17_5 e17_1 1 fun r22 r23 =>
zj118 N e17_2 fun r24 =>
(cond (!r24)
(k false)
(zj122 N e17_2 fun r25 =>
(cond ((r25 != e17_3))
(k false)
((gd ((decide (0 ≤ e17_3)))
(zj126 N e17_2 fun r26 =>
(cond ((decide (r26 > (shlI .i64 1 e17_3))))
(k false)
(zj126 N e17_2 fun r27 =>
(cond ((decide ((w64 ((r20.length : Int) + (r22.length : Int))) > r27)))
(k false)
(zj132 N r18 fun r28 =>
zj126 N e17_2 fun r29 =>
(cond ((decide (r28 > r29)))
(k false)
(zj138 N e17_0 fun r30 =>
zj139 N e17_0 fun r31 r32 r33 =>
zj96 N r31 r32 r33 fun r34 r35 r36 =>
zj147 N r31 r32 r33 fun r37 r38 r39 =>
(cond ((r34 == r37))
((cond ((r35 == r38))
((cond ((r36 == r39))
(zj118 N r30 fun r40 =>
zj144 N r30 fun r41 =>
(cond ((r40 == r41))
(zj122 N r30 fun r42 =>
zj151 N r30 fun r43 =>
(cond ((r42 == r43))
(zj126 N r30 fun r44 =>
zj155 N r30 fun r45 =>
k ((r44 == r45)))
(k false)))
(k false)))
(k false)))
(k false)))
(k false))))))))))))))))
(zj138 N a0 fun r46 =>
zj139 N a0 fun r47 r48 r49 =>
zj96 N r47 r48 r49 fun r50 r51 r52 =>
zj147 N r47 r48 r49 fun r53 r54 r55 =>
(cond ((r50 == r53))
((cond ((r51 == r54))
((cond ((r52 == r55))
(zj118 N r46 fun r56 =>
zj144 N r46 fun r57 =>
(cond ((r56 == r57))
(zj122 N r46 fun r58 =>
zj151 N r46 fun r59 =>
(cond ((r58 == r59))
(zj126 N r46 fun r60 =>
zj155 N r46 fun r61 =>
k ((r60 == r61)))
(k false)))
(k false)))
(k false)))
(k false)))
(k false))))))))))))
end Go.Proofs.YtddflpokemgnmaaDoor
