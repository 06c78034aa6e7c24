/- The texts of the functions that the claims reach: plain Lean, no program. -/
import Derived.Test.YtdkjnadhgdneaaaRvShape
namespace Go.Proofs.Ytdkjnadhgdneaaa
open Go.Rv
set_option linter.unusedVariables false
set_option maxRecDepth 100000
/-! loop.example/g03403/laws.big -/
def laws_big {β : Type} (N : Nat) (a0 : List Int) (k : Bool → Option β) : Option β :=
k ((decide ((a0.length : Int) > 1048576)))
/-! loop.example/g03403/spec.l1New -/
def spec_l1New_l0b {β : Type} (N : Nat)  (v0 : List Int) (v1 : Int) (v2 : Int) (rec_ : List Int → Int → Int → Option β) (k0 : List Int → Int → Option β) : Option β :=
(cond ((decide (v2 < (v0.length : Int))))
((cond ((decide (v2 < 4000)))
((gd ((decide (0 ≤ v2)))
((gd ((decide (v2 < (v0.length : Int))))
(rec_ v0 ((bits .and .i64 (w64 ((w64 ((w64 (v1 * 131)) + (w64 ((rd 0 v0 v2))))) + 7)) 1073741823)) ((w64 (v2 + 1))))))))
(k0 v0 v1)))
(k0 v0 v1))
def spec_l1New_l0 {β : Type} (N : Nat)  : Nat → List Int → Int → Int → (List Int → Int → Option β) → Option β
  | 0, _, _, _, _ => none
  | F + 1, v0, v1, v2, k0 => spec_l1New_l0b N  v0 v1 v2 (fun v0 v1 v2 => spec_l1New_l0 N  F v0 v1 v2 k0) k0
def spec_l1New_g0 {β : Type} (N : Nat) (a0 : List Int) (k0 : List Int → Int → Int → Option β) : Option β :=
spec_l1New_l0 N  N a0 ((w64 (10101 + (a0.length : Int)))) 0 (fun e4_0 e4_1 =>
k0 e4_0 0 e4_1)
/-! loop.example/g03403/spec.l1Byte -/
def spec_l1Byte_g0 {β : Type} (N : Nat) (a0 : List Int) (a1 : Int) (a2 : Int) (k0 : Int → List Int → Int → Int → Option β) : Option β :=
(cond ((decide (a1 < (a0.length : Int))))
((gd ((decide (0 ≤ a1)))
((gd ((decide (a1 < (a0.length : Int))))
(k0 ((bits .and .i64 (w64 ((bits .and .i64 (bits .xor .i64 (shrI .i64 (w64 ((w64 (a2 * 6364136223846793005)) + 1442695040888963407)) 33) (shrI .i64 (w64 ((w64 (a2 * 6364136223846793005)) + 1442695040888963407)) 45)) 255) + (w64 ((rd 0 a0 a1))))) 255)) a0 ((w64 (a1 + 1))) ((w64 ((w64 (a2 * 6364136223846793005)) + 1442695040888963407))))))))
(k0 ((bits .and .i64 (bits .xor .i64 (shrI .i64 (w64 ((w64 (a2 * 6364136223846793005)) + 1442695040888963407)) 33) (shrI .i64 (w64 ((w64 (a2 * 6364136223846793005)) + 1442695040888963407)) 45)) 255)) a0 a1 ((w64 ((w64 (a2 * 6364136223846793005)) + 1442695040888963407)))))
/-! loop.example/g03403/spec.l1Below -/
def spec_l1Below_g0 {β : Type} (N : Nat) (a0 : Int) (a1 : List Int) (a2 : Int) (a3 : Int) (k0 : Int → List Int → Int → Int → Option β) : Option β :=
(cond ((decide (a0 ≤ 0)))
(k0 0 a1 a2 a3)
((cond ((decide (a0 ≤ 256)))
(spec_l1Byte_g0 N a1 a2 a3 (fun r6_0 r6_1 r6_2 r6_3 =>
(gd ((a0 != 0))
(k0 ((remI r6_0 a0)) r6_1 r6_2 r6_3))))
(spec_l1Byte_g0 N a1 a2 a3 (fun r7_0 r7_1 r7_2 r7_3 =>
spec_l1Byte_g0 N r7_1 r7_2 r7_3 (fun r8_0 r8_1 r8_2 r8_3 =>
spec_l1Byte_g0 N r8_1 r8_2 r8_3 (fun r9_0 r9_1 r9_2 r9_3 =>
spec_l1Byte_g0 N r9_1 r9_2 r9_3 (fun r10_0 r10_1 r10_2 r10_3 =>
(gd ((a0 != 0))
(k0 ((remI (w64 ((w64 ((w64 ((w64 (r7_0 * 16777216)) + (w64 (r8_0 * 65536)))) + (w64 (r9_0 * 256)))) + r10_0)) a0)) r10_1 r10_2 r10_3))))))))))
/-! loop.example/g03403/spec.l2Variable -/
def spec_l2Variable_l0b {β : Type} (N : Nat)  (v0 : Int) (v1 : Int) (v2 : Int) (v3 : Int) (rec_ : Int → Int → Int → Int → Option β) (k0 : Int → Option β) : Option β :=
(gd ((decide (0 ≤ v0)))
((cond ((decide (v3 < (shlI .i64 1 v0))))
((gd ((decide (0 ≤ v1)))
((cond (((bits .and .i64 (shrI .i64 v3 v1) 1) == 1))
((gd ((decide (0 ≤ v3)))
(rec_ v0 v1 ((bits .or .i64 v2 (shlI .i64 1 v3))) ((w64 (v3 + 1))))))
(rec_ v0 v1 v2 ((w64 (v3 + 1))))))))
(k0 v2))))
def spec_l2Variable_l0 {β : Type} (N : Nat)  : Nat → Int → Int → Int → Int → (Int → Option β) → Option β
  | 0, _, _, _, _, _ => none
  | F + 1, v0, v1, v2, v3, k0 => spec_l2Variable_l0b N  v0 v1 v2 v3 (fun v0 v1 v2 v3 => spec_l2Variable_l0 N  F v0 v1 v2 v3 k0) k0
def spec_l2Variable {β : Type} (N : Nat) (a0 : Int) (a1 : Int) (k : Int → Option β) : Option β :=
spec_l2Variable_l0 N  N a0 a1 0 0 (fun e3_0 =>
k e3_0)
/-! loop.example/g03403/spec.l2Full -/
def spec_l2Full {β : Type} (N : Nat) (a0 : Int) (k : Int → Option β) : Option β :=
(gd ((decide (0 ≤ a0)))
((gd ((decide (0 ≤ (shlI .u64 1 a0))))
(k ((w64 ((shlI .i64 1 (shlI .u64 1 a0)) - 1)))))))
/-! loop.example/g03403/spec.l2Count -/
def spec_l2Count_l0b {β : Type} (N : Nat)  (v0 : Int) (v1 : Int) (rec_ : Int → Int → Option β) (k0 : Int → Option β) : Option β :=
(cond ((decide (v1 > 0)))
(rec_ ((w64 (v0 + (bits .and .i64 v1 1)))) ((shrI .i64 v1 1)))
(k0 v0))
def spec_l2Count_l0 {β : Type} (N : Nat)  : Nat → Int → Int → (Int → Option β) → Option β
  | 0, _, _, _ => none
  | F + 1, v0, v1, k0 => spec_l2Count_l0b N  v0 v1 (fun v0 v1 => spec_l2Count_l0 N  F v0 v1 k0) k0
def spec_l2Count {β : Type} (N : Nat) (a0 : Int) (k : Int → Option β) : Option β :=
spec_l2Count_l0 N  N 0 a0 (fun e2_0 =>
k e2_0)
/-! loop.example/g03403/spec.l2Draw -/
def spec_l2Draw_l3b {β : Type} (N : Nat)  (v0 : Int) (v1 : Int) (v2 : Int) (v3 : List Int) (v4 : Int) (v5 : Int) (v6 : Int) (v7 : Int) (rec_ : Int → Int → Int → List Int → Int → Int → Int → Int → Option β) (k0 : Int → Int → List Int → Int → Int → Int → Int → Option β) : Option β :=
(gd ((decide (0 ≤ v0)))
((cond ((decide (v2 < (shlI .i64 1 v0))))
(spec_l2Count N v2 fun r17 =>
(cond ((decide ((w64 (2 * r17)) > v0)))
((gd ((decide (0 ≤ v2)))
(rec_ v0 ((bits .or .i64 v1 (shlI .i64 1 v2))) ((w64 (v2 + 1))) v3 v4 v5 v6 v7)))
(rec_ v0 v1 ((w64 (v2 + 1))) v3 v4 v5 v6 v7)))
(k0 v0 v1 v3 v4 v5 v6 v7))))
def spec_l2Draw_l3 {β : Type} (N : Nat)  : Nat → Int → Int → Int → List Int → Int → Int → Int → Int → (Int → Int → List Int → Int → Int → Int → Int → Option β) → Option β
  | 0, _, _, _, _, _, _, _, _, _ => none
  | F + 1, v0, v1, v2, v3, v4, v5, v6, v7, k0 => spec_l2Draw_l3b N  v0 v1 v2 v3 v4 v5 v6 v7 (fun v0 v1 v2 v3 v4 v5 v6 v7 => spec_l2Draw_l3 N  F v0 v1 v2 v3 v4 v5 v6 v7 k0) k0
def spec_l2Draw_l5b {β : Type} (N : Nat)  (v0 : Int) (v1 : Int) (v2 : Int) (v3 : List Int) (v4 : Int) (v5 : Int) (v6 : Int) (v7 : Int) (rec_ : Int → Int → Int → List Int → Int → Int → Int → Int → Option β) (k0 : Int → Int → List Int → Int → Int → Int → Int → Option β) : Option β :=
(gd ((decide (0 ≤ v0)))
((cond ((decide (v2 < (shlI .i64 1 v0))))
(spec_l2Count N v2 fun r21 =>
(cond (((remI r21 2) == 1))
((gd ((decide (0 ≤ v2)))
(rec_ v0 ((bits .or .i64 v1 (shlI .i64 1 v2))) ((w64 (v2 + 1))) v3 v4 v5 v6 v7)))
(rec_ v0 v1 ((w64 (v2 + 1))) v3 v4 v5 v6 v7)))
(k0 v0 v1 v3 v4 v5 v6 v7))))
def spec_l2Draw_l5 {β : Type} (N : Nat)  : Nat → Int → Int → Int → List Int → Int → Int → Int → Int → (Int → Int → List Int → Int → Int → Int → Int → Option β) → Option β
  | 0, _, _, _, _, _, _, _, _, _ => none
  | F + 1, v0, v1, v2, v3, v4, v5, v6, v7, k0 => spec_l2Draw_l5b N  v0 v1 v2 v3 v4 v5 v6 v7 (fun v0 v1 v2 v3 v4 v5 v6 v7 => spec_l2Draw_l5 N  F v0 v1 v2 v3 v4 v5 v6 v7 k0) k0
def spec_l2Draw_l7b {β : Type} (N : Nat)  (v0 : Int) (v1 : Int) (v2 : Int) (v3 : Int) (v4 : List Int) (v5 : Int) (v6 : Int) (v7 : Int) (v8 : Int) (rec_ : Int → Int → Int → Int → List Int → Int → Int → Int → Int → Option β) (k0 : Int → Int → List Int → Int → Int → Int → Int → Option β) : Option β :=
(gd ((decide (0 ≤ v0)))
((cond ((decide (v3 < (shlI .i64 1 v0))))
((cond (((bits .and .i64 v3 v2) == v2))
((gd ((decide (0 ≤ v3)))
(rec_ v0 ((bits .or .i64 v1 (shlI .i64 1 v3))) v2 ((w64 (v3 + 1))) v4 v5 v6 v7 v8)))
(rec_ v0 v1 v2 ((w64 (v3 + 1))) v4 v5 v6 v7 v8)))
(k0 v0 v1 v4 v5 v6 v7 v8))))
def spec_l2Draw_l7 {β : Type} (N : Nat)  : Nat → Int → Int → Int → Int → List Int → Int → Int → Int → Int → (Int → Int → List Int → Int → Int → Int → Int → Option β) → Option β
  | 0, _, _, _, _, _, _, _, _, _, _ => none
  | F + 1, v0, v1, v2, v3, v4, v5, v6, v7, v8, k0 => spec_l2Draw_l7b N  v0 v1 v2 v3 v4 v5 v6 v7 v8 (fun v0 v1 v2 v3 v4 v5 v6 v7 v8 => spec_l2Draw_l7 N  F v0 v1 v2 v3 v4 v5 v6 v7 v8 k0) k0
def spec_l2Draw_l1b {β : Type} (N : Nat)  (v0 : Int) (v1 : Int) (v2 : Int) (v3 : List Int) (v4 : Int) (v5 : Int) (v6 : Int) (v7 : Int) (rec_ : Int → Int → Int → List Int → Int → Int → Int → Int → Option β) (k0 : Int → Int → List Int → Int → Int → Int → Int → Option β) : Option β :=
(gd ((decide (0 ≤ v0)))
((cond ((decide (v2 < (shlI .i64 1 v0))))
(spec_l1Below_g0 N 2 v3 v4 v5 (fun r29_0 r29_1 r29_2 r29_3 =>
(gd ((decide (0 ≤ v2)))
(rec_ v0 ((bits .or .i64 v1 (shlI .i64 r29_0 v2))) ((w64 (v2 + 1))) r29_1 r29_2 r29_3 v6 v7))))
(k0 v0 v1 v3 v4 v5 v6 v7))))
def spec_l2Draw_l1 {β : Type} (N : Nat)  : Nat → Int → Int → Int → List Int → Int → Int → Int → Int → (Int → Int → List Int → Int → Int → Int → Int → Option β) → Option β
  | 0, _, _, _, _, _, _, _, _, _ => none
  | F + 1, v0, v1, v2, v3, v4, v5, v6, v7, k0 => spec_l2Draw_l1b N  v0 v1 v2 v3 v4 v5 v6 v7 (fun v0 v1 v2 v3 v4 v5 v6 v7 => spec_l2Draw_l1 N  F v0 v1 v2 v3 v4 v5 v6 v7 k0) k0
def spec_l2Draw_g0 {β : Type} (N : Nat) (a0 : Int) (a1 : List Int) (a2 : Int) (a3 : Int) (k0 : Int → Int → List Int → Int → Int → Option β) : Option β :=
spec_l1Below_g0 N 6 a1 a2 a3 (fun r12_0 r12_1 r12_2 r12_3 =>
(cond ((r12_0 == 0))
(spec_l1Below_g0 N ((mxI 1 a0)) r12_1 r12_2 r12_3 (fun r13_0 r13_1 r13_2 r13_3 =>
spec_l2Variable N a0 r13_0 fun r14 =>
(cond ((a0 == 0))
(spec_l2Full N a0 fun r15 =>
k0 a0 ((bits .and .i64 (bits .and .i64 r14 1) r15)) r13_1 r13_2 r13_3)
(spec_l2Full N a0 fun r16 =>
k0 a0 ((bits .and .i64 r14 r16)) r13_1 r13_2 r13_3))))
((cond ((r12_0 == 1))
(spec_l2Draw_l3 N  N a0 0 0 r12_1 r12_2 r12_3 0 0 (fun e18_0 e18_1 e18_2 e18_3 e18_4 e18_5 e18_6 =>
(cond ((e18_0 == 0))
(spec_l2Full N e18_0 fun r19 =>
k0 e18_0 ((bits .and .i64 (bits .and .i64 e18_1 1) r19)) e18_2 e18_3 e18_4)
(spec_l2Full N e18_0 fun r20 =>
k0 e18_0 ((bits .and .i64 e18_1 r20)) e18_2 e18_3 e18_4))))
((cond ((r12_0 == 2))
(spec_l2Draw_l5 N  N a0 0 0 r12_1 r12_2 r12_3 0 0 (fun e22_0 e22_1 e22_2 e22_3 e22_4 e22_5 e22_6 =>
(cond ((e22_0 == 0))
(spec_l2Full N e22_0 fun r23 =>
k0 e22_0 ((bits .and .i64 (bits .and .i64 e22_1 1) r23)) e22_2 e22_3 e22_4)
(spec_l2Full N e22_0 fun r24 =>
k0 e22_0 ((bits .and .i64 e22_1 r24)) e22_2 e22_3 e22_4))))
((cond ((r12_0 == 3))
((gd ((decide (0 ≤ a0)))
(spec_l1Below_g0 N ((shlI .i64 1 a0)) r12_1 r12_2 r12_3 (fun r25_0 r25_1 r25_2 r25_3 =>
spec_l2Draw_l7 N  N a0 0 r25_0 0 r25_1 r25_2 r25_3 0 0 (fun e26_0 e26_1 e26_2 e26_3 e26_4 e26_5 e26_6 =>
(cond ((e26_0 == 0))
(spec_l2Full N e26_0 fun r27 =>
k0 e26_0 ((bits .and .i64 (bits .and .i64 e26_1 1) r27)) e26_2 e26_3 e26_4)
(spec_l2Full N e26_0 fun r28 =>
k0 e26_0 ((bits .and .i64 e26_1 r28)) e26_2 e26_3 e26_4)))))))
(spec_l2Draw_l1 N  N a0 0 0 r12_1 r12_2 r12_3 0 0 (fun e30_0 e30_1 e30_2 e30_3 e30_4 e30_5 e30_6 =>
(cond ((e30_0 == 0))
(spec_l2Full N e30_0 fun r31 =>
k0 e30_0 ((bits .and .i64 (bits .and .i64 e30_1 1) r31)) e30_2 e30_3 e30_4)
(spec_l2Full N e30_0 fun r32 =>
k0 e30_0 ((bits .and .i64 e30_1 r32)) e30_2 e30_3 e30_4))))))))))))
/-! loop.example/g03403/spec.l1PickInt -/
def spec_l1PickInt_g0 {β : Type} (N : Nat) (a0 : List Int) (a1 : Int) (a2 : Int) (a3 : List Int) (k0 : Int → List Int → Int → Int → List Int → Option β) : Option β :=
spec_l1Below_g0 N ((a3.length : Int)) a0 a1 a2 (fun r35_0 r35_1 r35_2 r35_3 =>
(gd ((decide (0 ≤ r35_0)))
((gd ((decide (r35_0 < (a3.length : Int))))
(k0 ((rd 0 a3 r35_0)) r35_1 r35_2 r35_3 a3)))))
/-! loop.example/g03403/spec.l2Any -/
def spec_l2Any_g0 {β : Type} (N : Nat) (a0 : List Int) (a1 : Int) (a2 : Int) (k0 : Int → Int → List Int → Int → Int → Option β) : Option β :=
spec_l1Below_g0 N 5 a0 a1 a2 (fun r11_0 r11_1 r11_2 r11_3 =>
spec_l2Draw_g0 N r11_0 r11_1 r11_2 r11_3 (fun r33_0 r33_1 r33_2 r33_3 r33_4 =>
spec_l1Below_g0 N 14 r33_2 r33_3 r33_4 (fun r34_0 r34_1 r34_2 r34_3 =>
(cond ((r34_0 == 0))
(spec_l1PickInt_g0 N r34_1 r34_2 r34_3 ((((((([] : List Int) ++ [(-1)]) ++ [6]) ++ [5]) ++ [0]) ++ [9223372036854775807])) (fun r36_0 r36_1 r36_2 r36_3 r36_4 =>
k0 r36_0 r33_1 r36_1 r36_2 r36_3))
((cond ((r34_0 == 1))
(spec_l1PickInt_g0 N r34_1 r34_2 r34_3 ((((((([] : List Int) ++ [(-1)]) ++ [0]) ++ [1]) ++ [65536]) ++ [9223372036854775807])) (fun r37_0 r37_1 r37_2 r37_3 r37_4 =>
k0 r33_0 r37_0 r37_1 r37_2 r37_3))
(k0 r33_0 r33_1 r34_1 r34_2 r34_3)))))))
/-! loop.example/g03403/spec.l3Var -/
def spec_l3Var {β : Type} (N : Nat) (a0 : List Int) (k : Int → Int → Int → Option β) : Option β :=
spec_l1New_g0 N a0 (fun r4_0 r4_1 r4_2 =>
spec_l2Any_g0 N r4_0 r4_1 r4_2 (fun r5_0 r5_1 r5_2 r5_3 r5_4 =>
spec_l1Below_g0 N 7 r5_2 r5_3 r5_4 (fun r6_0 r6_1 r6_2 r6_3 =>
k r5_0 r5_1 ((w64 (r6_0 - 1))))))
/-! loop.example/g03403/spec.DrawRestrictTable -/
def spec_DrawRestrictTable_s2 {β : Type} (s0 : Int) (s1 : Int) (s2 : Int) (s3 : Int) (K : Option β) : Option β :=
(gd (s0 == s0) (gd (s1 == s1) (gd (s2 == s2) (gd (s3 == s3) K))))
def spec_DrawRestrictTable {β : Type} (N : Nat) (a0 : List Int) (k : Int → Int → Int → Int → Option β) : Option β :=
spec_l3Var N a0 fun r5 r6 r7 =>
(gd ((decide (0 ≤ (remI (a0.length : Int) 6))))
((gd ((decide ((remI (a0.length : Int) 6) < ((((((((([] : List Int) ++ [0]) ++ [1]) ++ [0]) ++ [1]) ++ [2]) ++ [(-1)])).length : Int))))
((spec_DrawRestrictTable_s2 r7 ((rd 0 (((((((([] : List Int) ++ [0]) ++ [1]) ++ [0]) ++ [1]) ++ [2]) ++ [(-1)])) (remI (a0.length : Int) 6))) r5 r6
((gd ((decide (0 ≤ (remI (a0.length : Int) 6))))
((gd ((decide ((remI (a0.length : Int) 6) < ((((((((([] : List Int) ++ [0]) ++ [1]) ++ [0]) ++ [1]) ++ [2]) ++ [(-1)])).length : Int))))
((spec_DrawRestrictTable_s2 r7 ((rd 0 (((((((([] : List Int) ++ [0]) ++ [1]) ++ [0]) ++ [1]) ++ [2]) ++ [(-1)])) (remI (a0.length : Int) 6))) r5 r6
((gd ((decide (0 ≤ (remI (a0.length : Int) 6))))
((gd ((decide ((remI (a0.length : Int) 6) < ((((((((([] : List Int) ++ [0]) ++ [1]) ++ [0]) ++ [1]) ++ [2]) ++ [(-1)])).length : Int))))
((spec_DrawRestrictTable_s2 r7 ((rd 0 (((((((([] : List Int) ++ [0]) ++ [1]) ++ [0]) ++ [1]) ++ [2]) ++ [(-1)])) (remI (a0.length : Int) 6))) r5 r6
((gd ((decide (0 ≤ (remI (a0.length : Int) 6))))
((gd ((decide ((remI (a0.length : Int) 6) < ((((((((([] : List Int) ++ [0]) ++ [1]) ++ [0]) ++ [1]) ++ [2]) ++ [(-1)])).length : Int))))
((spec_DrawRestrictTable_s2 r7 ((rd 0 (((((((([] : List Int) ++ [0]) ++ [1]) ++ [0]) ++ [1]) ++ [2]) ++ [(-1)])) (remI (a0.length : Int) 6))) r5 r6
((gd ((decide (0 ≤ (remI (a0.length : Int) 6))))
((gd ((decide ((remI (a0.length : Int) 6) < ((((((((([] : List Int) ++ [0]) ++ [1]) ++ [0]) ++ [1]) ++ [2]) ++ [(-1)])).length : Int))))
((spec_DrawRestrictTable_s2 r7 ((rd 0 (((((((([] : List Int) ++ [0]) ++ [1]) ++ [0]) ++ [1]) ++ [2]) ++ [(-1)])) (remI (a0.length : Int) 6))) r5 r6
((gd ((decide (0 ≤ (remI (a0.length : Int) 6))))
((gd ((decide ((remI (a0.length : Int) 6) < ((((((((([] : List Int) ++ [0]) ++ [1]) ++ [0]) ++ [1]) ++ [2]) ++ [(-1)])).length : Int))))
((spec_DrawRestrictTable_s2 r7 ((rd 0 (((((((([] : List Int) ++ [0]) ++ [1]) ++ [0]) ++ [1]) ++ [2]) ++ [(-1)])) (remI (a0.length : Int) 6))) r5 r6
((gd ((decide (0 ≤ (remI (a0.length : Int) 6))))
((gd ((decide ((remI (a0.length : Int) 6) < ((((((((([] : List Int) ++ [0]) ++ [1]) ++ [0]) ++ [1]) ++ [2]) ++ [(-1)])).length : Int))))
((spec_DrawRestrictTable_s2 r7 ((rd 0 (((((((([] : List Int) ++ [0]) ++ [1]) ++ [0]) ++ [1]) ++ [2]) ++ [(-1)])) (remI (a0.length : Int) 6))) r5 r6
((spec_DrawRestrictTable_s2 r7 ((rd 0 (((((((([] : List Int) ++ [0]) ++ [1]) ++ [0]) ++ [1]) ++ [2]) ++ [(-1)])) (remI (a0.length : Int) 6))) r5 r6
(k r5 r6 r7 ((rd 0 (((((((([] : List Int) ++ [0]) ++ [1]) ++ [0]) ++ [1]) ++ [2]) ++ [(-1)])) (remI (a0.length : Int) 6)))))))))))))))))))))))))))))))))))))))))))))))
/-! loop.example/g03403/spec.DrawDetectingInputs -/
def spec_DrawDetectingInputs {β : Type} (N : Nat) (a0 : List Int) (k : Int → Int → Int → Int → Option β) : Option β :=
spec_DrawRestrictTable N a0 fun r5 r6 r7 r8 =>
k r5 r6 r7 r8
/-! loop.example/g03403/impl.isBits -/
def impl_isBits {β : Type} (N : Nat) (a0 : Int) (k : Bool → Option β) : Option β :=
(cond ((decide (a0 ≥ 0)))
(k ((decide (a0 ≤ 5))))
(k false))
/-! (loop.example/g03403/impl.Table).size -/
def impl_Table_size {β : Type} (N : Nat) (a0 : Int) (a1 : Int) (k : Int → Option β) : Option β :=
(gd ((decide (0 ≤ a0)))
(k ((shlI .i64 1 a0))))
/-! loop.example/g03403/impl.IsTable -/
def impl_IsTable {β : Type} (N : Nat) (a0 : Int) (a1 : Int) (k : Bool → Option β) : Option β :=
impl_isBits N a0 fun r3 =>
(cond r3
((cond ((decide (a1 ≥ 0)))
(impl_Table_size N a0 a1 fun r4 =>
(gd ((decide (0 ≤ r4)))
(k (((shrI .i64 a1 r4) == 0)))))
(k false)))
(k false))
/-! loop.example/g03403/impl.hasVariable -/
def impl_hasVariable {β : Type} (N : Nat) (a0 : Int) (a1 : Int) (a2 : Int) (k : Bool → Option β) : Option β :=
impl_IsTable N a0 a1 fun r4 =>
(cond r4
((cond ((decide (a2 ≥ 0)))
(k ((decide (a2 < a0))))
(k false)))
(k false))
/-! loop.example/g03403/impl.isBit -/
def impl_isBit {β : Type} (N : Nat) (a0 : Int) (k : Bool → Option β) : Option β :=
(cond ((a0 == 0))
(k true)
(k ((a0 == 1))))
/-! (loop.example/g03403/impl.Table).at -/
def impl_Table_at {β : Type} (N : Nat) (a0 : Int) (a1 : Int) (a2 : Int) (k : Int → Option β) : Option β :=
(gd ((decide (0 ≤ a2)))
(k ((bits .and .i64 (shrI .i64 a1 a2) 1))))
/-! (loop.example/g03403/impl.Table).stuck$1 -/
def impl_Table_stuck_1 {β : Type} (N : Nat) (a0 : Int) (c0 : Int) (c1 : Int) (c2 : Int) (c3 : Int) (k : Bool → Option β) : Option β :=
(gd ((decide (0 ≤ c2)))
((gd ((decide (0 ≤ c2)))
(impl_Table_at N c0 c1 ((bits .or .i64 (bits .andNot .i64 a0 (shlI .i64 1 c2)) (shlI .i64 c3 c2))) fun r2 =>
k ((r2 == 1))))))
/-! loop.example/g03403/impl.makeTable -/
def impl_makeTable_l0b {β : Type} (N : Nat) (a1 : (Int → (Bool → Option β) → Option β)) (v0 : Int) (v1 : Int) (v2 : Int) (v3 : Int) (v4 : Int) (v5 : Int) (rec_ : Int → Int → Int → Int → Int → Int → Option β) (k0 : Int → Int → Int → Int → Option β) : Option β :=
(cond ((decide (v1 < v0)))
(a1 v1 fun r4 =>
(cond r4
((gd ((decide (0 ≤ v1)))
(rec_ v0 ((w64 (v1 + 1))) v2 v3 v4 ((bits .or .i64 v5 (shlI .i64 1 v1))))))
(rec_ v0 ((w64 (v1 + 1))) v2 v3 v4 v5)))
(k0 v2 v3 v4 v5))
def impl_makeTable_l0 {β : Type} (N : Nat) (a1 : (Int → (Bool → Option β) → Option β)) : Nat → Int → Int → Int → Int → Int → Int → (Int → Int → Int → Int → Option β) → Option β
  | 0, _, _, _, _, _, _, _ => none
  | F + 1, v0, v1, v2, v3, v4, v5, k0 => impl_makeTable_l0b N a1 v0 v1 v2 v3 v4 v5 (fun v0 v1 v2 v3 v4 v5 => impl_makeTable_l0 N a1 F v0 v1 v2 v3 v4 v5 k0) k0
def impl_makeTable {β : Type} (N : Nat) (a0 : Int) (a1 : (Int → (Bool → Option β) → Option β)) (k : Int → Int → Option β) : Option β :=
(gd ((decide (0 ≤ a0)))
(impl_makeTable_l0 N a1 N ((shlI .i64 1 a0)) 0 0 0 a0 0 (fun e5_0 e5_1 e5_2 e5_3 =>
k e5_2 e5_3)))
/-! (loop.example/g03403/impl.Table).stuck -/
def impl_Table_stuck {β : Type} (N : Nat) (a0 : Int) (a1 : Int) (a2 : Int) (a3 : Int) (k : Int → Int → Option β) : Option β :=
impl_makeTable N a0 (fun x0 k => impl_Table_stuck_1 N x0 a0 a1 a2 a3 k) fun r6 r7 =>
k r6 r7
/-! (loop.example/g03403/impl.Table).detecting -/
def impl_Table_detecting {β : Type} (N : Nat) (a0 : Int) (a1 : Int) (a2 : Int) (a3 : Int) (k : Int → Option β) : Option β :=
impl_Table_stuck N a0 a1 a2 a3 fun r5 r6 =>
k ((bits .xor .i64 a1 r6))
/-! loop.example/g03403/impl.elements -/
def impl_elements_l0b {β : Type} (N : Nat)  (v0 : Int) (v1 : Int) (v2 : List Int) (rec_ : Int → Int → List Int → Option β) (k0 : List Int → Option β) : Option β :=
(cond ((decide (v1 < 32)))
((gd ((decide (0 ≤ v1)))
((cond (((bits .and .i64 (shrI .i64 v0 v1) 1) == 1))
((gd ((decide ((v2.length + ((([] : List Int) ++ [v1])).length) * 8 ≤ 140737488355328)))
(rec_ v0 ((w64 (v1 + 1))) ((v2 ++ (([] : List Int) ++ [v1]))))))
(rec_ v0 ((w64 (v1 + 1))) v2)))))
(k0 v2))
def impl_elements_l0 {β : Type} (N : Nat)  : Nat → Int → Int → List Int → (List Int → Option β) → Option β
  | 0, _, _, _, _ => none
  | F + 1, v0, v1, v2, k0 => impl_elements_l0b N  v0 v1 v2 (fun v0 v1 v2 => impl_elements_l0 N  F v0 v1 v2 k0) k0
def impl_elements {β : Type} (N : Nat) (a0 : Int) (k : List Int → Option β) : Option β :=
impl_elements_l0 N  N a0 0 (([] : List Int)) (fun e2_0 =>
k e2_0)
/-! loop.example/g03403/impl.DetectingInputs -/
def impl_DetectingInputs {β : Type} (N : Nat) (a0 : Int) (a1 : Int) (a2 : Int) (a3 : Int) (k : List Int → Bool → Option β) : Option β :=
impl_hasVariable N a0 a1 a2 fun r6 =>
(cond (!r6)
(k (([] : List Int)) false)
(impl_isBit N a3 fun r7 =>
(cond (!r7)
(k (([] : List Int)) false)
(impl_Table_detecting N a0 a1 a2 a3 fun r8 =>
impl_elements N r8 fun r9 =>
k r9 true))))
/-! loop.example/g03403/spec.l1In -/
def spec_l1In {β : Type} (N : Nat) (a0 : Int) (a1 : Int) (a2 : Int) (k : Bool → Option β) : Option β :=
(cond ((decide (a0 ≥ a1)))
(k ((decide (a0 ≤ a2))))
(k false))
/-! loop.example/g03403/spec.IsTable -/
def spec_IsTable {β : Type} (N : Nat) (a0 : Int) (a1 : Int) (k : Bool → Option β) : Option β :=
spec_l1In N a0 0 5 fun r3 =>
(cond r3
((gd ((decide (0 ≤ a0)))
((gd ((decide (0 ≤ (shlI .u64 1 a0))))
(spec_l1In N a1 0 ((w64 ((shlI .i64 1 (shlI .u64 1 a0)) - 1))) fun r4 =>
k r4)))))
(k false))
/-! loop.example/g03403/spec.l29Stuck -/
def spec_l29Stuck_l0b {β : Type} (N : Nat)  (v0 : Int) (v1 : Int) (v2 : Int) (v3 : Int) (v4 : Int) (v5 : Int) (v6 : Int) (v7 : Int) (rec_ : Int → Int → Int → Int → Int → Int → Int → Int → Option β) (k0 : Int → Int → Int → Int → Int → Option β) : Option β :=
(gd ((decide (0 ≤ v4)))
((cond ((decide (v3 < (shlI .i64 1 v4))))
((gd ((decide (0 ≤ v0)))
((gd ((decide (0 ≤ v0)))
((gd ((decide (0 ≤ (w64 ((w64 (v3 - (bits .and .i64 v3 (shlI .i64 1 v0)))) + (shlI .i64 v1 v0))))))
((gd ((decide (0 ≤ v3)))
(rec_ v0 v1 ((bits .or .i64 v2 (shlI .i64 (bits .and .i64 (shrI .i64 v5 (w64 ((w64 (v3 - (bits .and .i64 v3 (shlI .i64 1 v0)))) + (shlI .i64 v1 v0)))) 1) v3))) ((w64 (v3 + 1))) v4 v5 v6 v7)))))))))
(k0 v2 v4 v5 v6 v7))))
def spec_l29Stuck_l0 {β : Type} (N : Nat)  : Nat → Int → Int → Int → Int → Int → Int → Int → Int → (Int → Int → Int → Int → Int → Option β) → Option β
  | 0, _, _, _, _, _, _, _, _, _ => none
  | F + 1, v0, v1, v2, v3, v4, v5, v6, v7, k0 => spec_l29Stuck_l0b N  v0 v1 v2 v3 v4 v5 v6 v7 (fun v0 v1 v2 v3 v4 v5 v6 v7 => spec_l29Stuck_l0 N  F v0 v1 v2 v3 v4 v5 v6 v7 k0) k0
def spec_l29Stuck {β : Type} (N : Nat) (a0 : Int) (a1 : Int) (a2 : Int) (a3 : Int) (k : Int → Int → Option β) : Option β :=
spec_l29Stuck_l0 N  N a2 a3 0 0 a0 a1 0 0 (fun e6_0 e6_1 e6_2 e6_3 e6_4 =>
k e6_1 e6_0)
/-! loop.example/g03403/spec.StuckTable -/
def spec_StuckTable {β : Type} (N : Nat) (a0 : Int) (a1 : Int) (a2 : Int) (a3 : Int) (k : Int → Int → Bool → Option β) : Option β :=
spec_IsTable N a0 a1 fun r7 =>
(cond (!r7)
(k 0 0 false)
(spec_l1In N a2 0 ((w64 (a0 - 1))) fun r8 =>
(cond (!r8)
(k 0 0 false)
(spec_l1In N a3 0 1 fun r9 =>
(cond (!r9)
(k 0 0 false)
(spec_l29Stuck N a0 a1 a2 a3 fun r10 r11 =>
k r10 r11 true))))))
/-! loop.example/g03403/spec.DetectingInputs -/
def spec_DetectingInputs_l0b {β : Type} (N : Nat)  (v0 : Bool) (v1 : Int) (v2 : Int) (v3 : Int) (v4 : List Int) (v5 : Int) (v6 : Int) (rec_ : Bool → Int → Int → Int → List Int → Int → Int → Option β) (k0 : Bool → List Int → Option β) : Option β :=
(cond v0
((gd ((decide (0 ≤ v2)))
((cond ((decide (v1 < (shlI .i64 1 v2))))
((gd ((decide (0 ≤ v1)))
((gd ((decide (0 ≤ v1)))
((cond (((bits .and .i64 (bits .xor .i64 (shrI .i64 v3 v1) (shrI .i64 v6 v1)) 1) == 1))
((gd ((decide ((v4.length + ((([] : List Int) ++ [v1])).length) * 8 ≤ 140737488355328)))
(rec_ v0 ((w64 (v1 + 1))) v2 v3 ((v4 ++ (([] : List Int) ++ [v1]))) v5 v6)))
(rec_ v0 ((w64 (v1 + 1))) v2 v3 v4 v5 v6)))))))
(k0 v0 v4)))))
(k0 v0 v4))
def spec_DetectingInputs_l0 {β : Type} (N : Nat)  : Nat → Bool → Int → Int → Int → List Int → Int → Int → (Bool → List Int → Option β) → Option β
  | 0, _, _, _, _, _, _, _, _ => none
  | F + 1, v0, v1, v2, v3, v4, v5, v6, k0 => spec_DetectingInputs_l0b N  v0 v1 v2 v3 v4 v5 v6 (fun v0 v1 v2 v3 v4 v5 v6 => spec_DetectingInputs_l0 N  F v0 v1 v2 v3 v4 v5 v6 k0) k0
def spec_DetectingInputs {β : Type} (N : Nat) (a0 : Int) (a1 : Int) (a2 : Int) (a3 : Int) (k : List Int → Bool → Option β) : Option β :=
spec_StuckTable N a0 a1 a2 a3 fun r6 r7 r8 =>
spec_DetectingInputs_l0 N  N r8 0 a0 a1 (([] : List Int)) r6 r7 (fun e9_0 e9_1 =>
k e9_1 e9_0)
/-! loop.example/g03403/laws.sameInts -/
def laws_sameInts_l0b {β : Type} (N : Nat)  (v0 : List Int) (v1 : List Int) (v2 : Int) (rec_ : List Int → List Int → Int → Option β) (k0 : Bool → Option β) (k1 : Option β) : Option β :=
(cond ((decide (v2 < (v0.length : Int))))
((gd ((decide (0 ≤ v2)))
((gd ((decide (v2 < (v0.length : Int))))
((gd ((decide (0 ≤ v2)))
((gd ((decide (v2 < (v1.length : Int))))
((cond (((rd 0 v0 v2) != (rd 0 v1 v2)))
(k0 false)
(rec_ v0 v1 ((w64 (v2 + 1))))))))))))))
(k1 ))
def laws_sameInts_l0 {β : Type} (N : Nat)  : Nat → List Int → List Int → Int → (Bool → Option β) → (Option β) → Option β
  | 0, _, _, _, _, _ => none
  | F + 1, v0, v1, v2, k0, k1 => laws_sameInts_l0b N  v0 v1 v2 (fun v0 v1 v2 => laws_sameInts_l0 N  F v0 v1 v2 k0 k1) k0 k1
def laws_sameInts {β : Type} (N : Nat) (a0 : List Int) (a1 : List Int) (k : Bool → Option β) : Option β :=
(cond (((a0.length : Int) != (a1.length : Int)))
(k false)
(laws_sameInts_l0 N  N a0 a1 0 (fun e3_0 =>
k e3_0) (k true)))
/-! (loop.example/g03403/impl.Table).changes -/
def impl_Table_changes {β : Type} (N : Nat) (a0 : Int) (a1 : Int) (a2 : Int) (a3 : Int) (k : Bool → Option β) : Option β :=
impl_Table_at N a0 a1 a2 fun r5 =>
impl_Table_at N a0 a1 ((bits .xor .i64 a2 a3)) fun r6 =>
k ((r5 != r6))
/-! (loop.example/g03403/impl.Table).influence -/
def impl_Table_influence_l0b {β : Type} (N : Nat)  (v0 : Int) (v1 : Int) (v2 : Int) (v3 : Int) (v4 : Int) (v5 : Int) (rec_ : Int → Int → Int → Int → Int → Int → Option β) (k0 : Int → Option β) : Option β :=
(cond ((decide (v3 < v2)))
((gd ((decide (0 ≤ v0)))
(impl_Table_changes N v4 v5 v3 ((shlI .i64 1 v0)) fun r5 =>
(cond r5
(rec_ v0 ((w64 (v1 + 1))) v2 ((w64 (v3 + 1))) v4 v5)
(rec_ v0 v1 v2 ((w64 (v3 + 1))) v4 v5)))))
(k0 v1))
def impl_Table_influence_l0 {β : Type} (N : Nat)  : Nat → Int → Int → Int → Int → Int → Int → (Int → Option β) → Option β
  | 0, _, _, _, _, _, _, _ => none
  | F + 1, v0, v1, v2, v3, v4, v5, k0 => impl_Table_influence_l0b N  v0 v1 v2 v3 v4 v5 (fun v0 v1 v2 v3 v4 v5 => impl_Table_influence_l0 N  F v0 v1 v2 v3 v4 v5 k0) k0
def impl_Table_influence {β : Type} (N : Nat) (a0 : Int) (a1 : Int) (a2 : Int) (k : Int → Option β) : Option β :=
impl_Table_size N a0 a1 fun r4 =>
impl_Table_influence_l0 N  N a2 0 r4 0 a0 a1 (fun e6_0 =>
k e6_0)
/-! loop.example/g03403/impl.InfluenceOf -/
def impl_InfluenceOf {β : Type} (N : Nat) (a0 : Int) (a1 : Int) (a2 : Int) (k : Int → Option β) : Option β :=
impl_hasVariable N a0 a1 a2 fun r4 =>
(cond (!r4)
(k (-1))
(impl_Table_influence N a0 a1 a2 fun r5 =>
k r5))
/-! loop.example/g03403/impl.isInput -/
def impl_isInput {β : Type} (N : Nat) (a0 : Int) (a1 : Int) (k : Bool → Option β) : Option β :=
(cond ((decide (a1 ≥ 0)))
((gd ((decide (0 ≤ a0)))
(k ((decide (a1 < (shlI .i64 1 a0)))))))
(k false))
/-! loop.example/g03403/impl.hasInput -/
def impl_hasInput {β : Type} (N : Nat) (a0 : Int) (a1 : Int) (a2 : Int) (k : Bool → Option β) : Option β :=
impl_IsTable N a0 a1 fun r4 =>
(cond r4
(impl_isInput N a0 a2 fun r5 =>
k r5)
(k false))
/-! loop.example/g03403/impl.DetectedBy -/
def impl_DetectedBy_l2b {β : Type} (N : Nat)  (v0 : Int) (v1 : Int) (v2 : Int) (v3 : Int) (v4 : Int) (v5 : Int) (v6 : Int) (v7 : List Int) (rec_ : Int → Int → Int → Int → Int → Int → Int → List Int → Option β) (k0 : Int → Int → Int → Int → Int → List Int → Option β) : Option β :=
(cond ((decide (v4 < 2)))
(impl_Table_detecting N v5 v6 v1 v4 fun r5 =>
(gd ((decide (0 ≤ v0)))
((cond (((bits .and .i64 (shrI .i64 r5 v0) 1) == 1))
((gd ((decide ((v7.length + ((([] : List Int) ++ [(w64 ((w64 (2 * v1)) + v4))])).length) * 8 ≤ 140737488355328)))
(rec_ v0 v1 v2 v3 ((w64 (v4 + 1))) v5 v6 ((v7 ++ (([] : List Int) ++ [(w64 ((w64 (2 * v1)) + v4))]))))))
(rec_ v0 v1 v2 v3 ((w64 (v4 + 1))) v5 v6 v7)))))
(k0 v0 v2 v3 v5 v6 v7))
def impl_DetectedBy_l2 {β : Type} (N : Nat)  : Nat → Int → Int → Int → Int → Int → Int → Int → List Int → (Int → Int → Int → Int → Int → List Int → Option β) → Option β
  | 0, _, _, _, _, _, _, _, _, _ => none
  | F + 1, v0, v1, v2, v3, v4, v5, v6, v7, k0 => impl_DetectedBy_l2b N  v0 v1 v2 v3 v4 v5 v6 v7 (fun v0 v1 v2 v3 v4 v5 v6 v7 => impl_DetectedBy_l2 N  F v0 v1 v2 v3 v4 v5 v6 v7 k0) k0
def impl_DetectedBy_l0b {β : Type} (N : Nat)  (v0 : Int) (v1 : Int) (v2 : Int) (v3 : Int) (v4 : Int) (v5 : List Int) (rec_ : Int → Int → Int → Int → Int → List Int → Option β) (k0 : List Int → Option β) : Option β :=
(cond ((decide (v2 < v1)))
(impl_DetectedBy_l2 N  N v0 v2 v1 v2 0 v3 v4 v5 (fun e6_0 e6_1 e6_2 e6_3 e6_4 e6_5 =>
rec_ e6_0 e6_1 ((w64 (e6_2 + 1))) e6_3 e6_4 e6_5))
(k0 v5))
def impl_DetectedBy_l0 {β : Type} (N : Nat)  : Nat → Int → Int → Int → Int → Int → List Int → (List Int → Option β) → Option β
  | 0, _, _, _, _, _, _, _ => none
  | F + 1, v0, v1, v2, v3, v4, v5, k0 => impl_DetectedBy_l0b N  v0 v1 v2 v3 v4 v5 (fun v0 v1 v2 v3 v4 v5 => impl_DetectedBy_l0 N  F v0 v1 v2 v3 v4 v5 k0) k0
def impl_DetectedBy {β : Type} (N : Nat) (a0 : Int) (a1 : Int) (a2 : Int) (k : List Int → Option β) : Option β :=
impl_hasInput N a0 a1 a2 fun r4 =>
(cond (!r4)
(k (([] : List Int)))
(impl_DetectedBy_l0 N  N a2 a0 0 a0 a1 (([] : List Int)) (fun e7_0 =>
k e7_0)))
/-! loop.example/g03403/laws.has -/
def laws_has_l0b {β : Type} (N : Nat)  (v0 : List Int) (v1 : Int) (v2 : Int) (rec_ : List Int → Int → Int → Option β) (k0 : Bool → Option β) (k1 : Option β) : Option β :=
(cond ((decide (v2 < (v0.length : Int))))
((gd ((decide (0 ≤ v2)))
((gd ((decide (v2 < (v0.length : Int))))
((cond (((rd 0 v0 v2) == v1))
(k0 true)
(rec_ v0 v1 ((w64 (v2 + 1))))))))))
(k1 ))
def laws_has_l0 {β : Type} (N : Nat)  : Nat → List Int → Int → Int → (Bool → Option β) → (Option β) → Option β
  | 0, _, _, _, _, _ => none
  | F + 1, v0, v1, v2, k0, k1 => laws_has_l0b N  v0 v1 v2 (fun v0 v1 v2 => laws_has_l0 N  F v0 v1 v2 k0 k1) k0 k1
def laws_has {β : Type} (N : Nat) (a0 : List Int) (a1 : Int) (k : Bool → Option β) : Option β :=
laws_has_l0 N  N a0 a1 0 (fun e3_0 =>
k e3_0) (k false)
/-! loop.example/g03403/spec.l1Once -/
def spec_l1Once_g0 {β : Type} (N : Nat) (a0 : Int) (a1 : List Int) (a2 : Int) (a3 : Int) (k0 : Bool → List Int → Int → Int → Option β) : Option β :=
spec_l1Below_g0 N a0 a1 a2 a3 (fun r4_0 r4_1 r4_2 r4_3 =>
k0 ((r4_0 == 0)) r4_1 r4_2 r4_3)
/-! loop.example/g03403/spec.l22Small -/
def spec_l22Small_g0 {β : Type} (N : Nat) (a0 : List Int) (a1 : Int) (a2 : Int) (k0 : Int → Int → List Int → Int → Int → Option β) : Option β :=
spec_l1Once_g0 N 8 a0 a1 a2 (fun r5_0 r5_1 r5_2 r5_3 =>
(cond r5_0
(spec_l2Any_g0 N r5_1 r5_2 r5_3 (fun r6_0 r6_1 r6_2 r6_3 r6_4 =>
k0 r6_0 r6_1 r6_2 r6_3 r6_4))
(spec_l1Below_g0 N 4 r5_1 r5_2 r5_3 (fun r7_0 r7_1 r7_2 r7_3 =>
spec_l2Draw_g0 N r7_0 r7_1 r7_2 r7_3 (fun r8_0 r8_1 r8_2 r8_3 r8_4 =>
k0 r8_0 r8_1 r8_2 r8_3 r8_4)))))
/-! loop.example/g03403/spec.DrawLeastTestSet -/
def spec_DrawLeastTestSet {β : Type} (N : Nat) (a0 : List Int) (k : Int → Int → Option β) : Option β :=
spec_l1New_g0 N a0 (fun r3_0 r3_1 r3_2 =>
spec_l22Small_g0 N r3_0 r3_1 r3_2 (fun r4_0 r4_1 r4_2 r4_3 r4_4 =>
k r4_0 r4_1))
/-! loop.example/g03403/impl.isSmall -/
def impl_isSmall {β : Type} (N : Nat) (a0 : Int) (a1 : Int) (a2 : Int) (k : Bool → Option β) : Option β :=
impl_IsTable N a0 a1 fun r4 =>
(cond r4
(k ((decide (a0 ≤ a2))))
(k false))
/-! math/bits.OnesCount64 -/
def math_bits_OnesCount64 {β : Type} (N : Nat) (a0 : Int) (k : Int → Option β) : Option β :=
k ((bits .and .i64 (w64 ((wu64 ((wu64 ((wu64 ((bits .and .u64 (wu64 ((shrI .u64 (wu64 ((bits .and .u64 (shrI .u64 (wu64 ((bits .and .u64 (shrI .u64 a0 1) 6148914691236517205) + (bits .and .u64 a0 6148914691236517205))) 2) 3689348814741910323) + (bits .and .u64 (wu64 ((bits .and .u64 (shrI .u64 a0 1) 6148914691236517205) + (bits .and .u64 a0 6148914691236517205))) 3689348814741910323))) 4) + (wu64 ((bits .and .u64 (shrI .u64 (wu64 ((bits .and .u64 (shrI .u64 a0 1) 6148914691236517205) + (bits .and .u64 a0 6148914691236517205))) 2) 3689348814741910323) + (bits .and .u64 (wu64 ((bits .and .u64 (shrI .u64 a0 1) 6148914691236517205) + (bits .and .u64 a0 6148914691236517205))) 3689348814741910323))))) 1085102592571150095) + (shrI .u64 (bits .and .u64 (wu64 ((shrI .u64 (wu64 ((bits .and .u64 (shrI .u64 (wu64 ((bits .and .u64 (shrI .u64 a0 1) 6148914691236517205) + (bits .and .u64 a0 6148914691236517205))) 2) 3689348814741910323) + (bits .and .u64 (wu64 ((bits .and .u64 (shrI .u64 a0 1) 6148914691236517205) + (bits .and .u64 a0 6148914691236517205))) 3689348814741910323))) 4) + (wu64 ((bits .and .u64 (shrI .u64 (wu64 ((bits .and .u64 (shrI .u64 a0 1) 6148914691236517205) + (bits .and .u64 a0 6148914691236517205))) 2) 3689348814741910323) + (bits .and .u64 (wu64 ((bits .and .u64 (shrI .u64 a0 1) 6148914691236517205) + (bits .and .u64 a0 6148914691236517205))) 3689348814741910323))))) 1085102592571150095) 8))) + (shrI .u64 (wu64 ((bits .and .u64 (wu64 ((shrI .u64 (wu64 ((bits .and .u64 (shrI .u64 (wu64 ((bits .and .u64 (shrI .u64 a0 1) 6148914691236517205) + (bits .and .u64 a0 6148914691236517205))) 2) 3689348814741910323) + (bits .and .u64 (wu64 ((bits .and .u64 (shrI .u64 a0 1) 6148914691236517205) + (bits .and .u64 a0 6148914691236517205))) 3689348814741910323))) 4) + (wu64 ((bits .and .u64 (shrI .u64 (wu64 ((bits .and .u64 (shrI .u64 a0 1) 6148914691236517205) + (bits .and .u64 a0 6148914691236517205))) 2) 3689348814741910323) + (bits .and .u64 (wu64 ((bits .and .u64 (shrI .u64 a0 1) 6148914691236517205) + (bits .and .u64 a0 6148914691236517205))) 3689348814741910323))))) 1085102592571150095) + (shrI .u64 (bits .and .u64 (wu64 ((shrI .u64 (wu64 ((bits .and .u64 (shrI .u64 (wu64 ((bits .and .u64 (shrI .u64 a0 1) 6148914691236517205) + (bits .and .u64 a0 6148914691236517205))) 2) 3689348814741910323) + (bits .and .u64 (wu64 ((bits .and .u64 (shrI .u64 a0 1) 6148914691236517205) + (bits .and .u64 a0 6148914691236517205))) 3689348814741910323))) 4) + (wu64 ((bits .and .u64 (shrI .u64 (wu64 ((bits .and .u64 (shrI .u64 a0 1) 6148914691236517205) + (bits .and .u64 a0 6148914691236517205))) 2) 3689348814741910323) + (bits .and .u64 (wu64 ((bits .and .u64 (shrI .u64 a0 1) 6148914691236517205) + (bits .and .u64 a0 6148914691236517205))) 3689348814741910323))))) 1085102592571150095) 8))) 16))) + (shrI .u64 (wu64 ((wu64 ((bits .and .u64 (wu64 ((shrI .u64 (wu64 ((bits .and .u64 (shrI .u64 (wu64 ((bits .and .u64 (shrI .u64 a0 1) 6148914691236517205) + (bits .and .u64 a0 6148914691236517205))) 2) 3689348814741910323) + (bits .and .u64 (wu64 ((bits .and .u64 (shrI .u64 a0 1) 6148914691236517205) + (bits .and .u64 a0 6148914691236517205))) 3689348814741910323))) 4) + (wu64 ((bits .and .u64 (shrI .u64 (wu64 ((bits .and .u64 (shrI .u64 a0 1) 6148914691236517205) + (bits .and .u64 a0 6148914691236517205))) 2) 3689348814741910323) + (bits .and .u64 (wu64 ((bits .and .u64 (shrI .u64 a0 1) 6148914691236517205) + (bits .and .u64 a0 6148914691236517205))) 3689348814741910323))))) 1085102592571150095) + (shrI .u64 (bits .and .u64 (wu64 ((shrI .u64 (wu64 ((bits .and .u64 (shrI .u64 (wu64 ((bits .and .u64 (shrI .u64 a0 1) 6148914691236517205) + (bits .and .u64 a0 6148914691236517205))) 2) 3689348814741910323) + (bits .and .u64 (wu64 ((bits .and .u64 (shrI .u64 a0 1) 6148914691236517205) + (bits .and .u64 a0 6148914691236517205))) 3689348814741910323))) 4) + (wu64 ((bits .and .u64 (shrI .u64 (wu64 ((bits .and .u64 (shrI .u64 a0 1) 6148914691236517205) + (bits .and .u64 a0 6148914691236517205))) 2) 3689348814741910323) + (bits .and .u64 (wu64 ((bits .and .u64 (shrI .u64 a0 1) 6148914691236517205) + (bits .and .u64 a0 6148914691236517205))) 3689348814741910323))))) 1085102592571150095) 8))) + (shrI .u64 (wu64 ((bits .and .u64 (wu64 ((shrI .u64 (wu64 ((bits .and .u64 (shrI .u64 (wu64 ((bits .and .u64 (shrI .u64 a0 1) 6148914691236517205) + (bits .and .u64 a0 6148914691236517205))) 2) 3689348814741910323) + (bits .and .u64 (wu64 ((bits .and .u64 (shrI .u64 a0 1) 6148914691236517205) + (bits .and .u64 a0 6148914691236517205))) 3689348814741910323))) 4) + (wu64 ((bits .and .u64 (shrI .u64 (wu64 ((bits .and .u64 (shrI .u64 a0 1) 6148914691236517205) + (bits .and .u64 a0 6148914691236517205))) 2) 3689348814741910323) + (bits .and .u64 (wu64 ((bits .and .u64 (shrI .u64 a0 1) 6148914691236517205) + (bits .and .u64 a0 6148914691236517205))) 3689348814741910323))))) 1085102592571150095) + (shrI .u64 (bits .and .u64 (wu64 ((shrI .u64 (wu64 ((bits .and .u64 (shrI .u64 (wu64 ((bits .and .u64 (shrI .u64 a0 1) 6148914691236517205) + (bits .and .u64 a0 6148914691236517205))) 2) 3689348814741910323) + (bits .and .u64 (wu64 ((bits .and .u64 (shrI .u64 a0 1) 6148914691236517205) + (bits .and .u64 a0 6148914691236517205))) 3689348814741910323))) 4) + (wu64 ((bits .and .u64 (shrI .u64 (wu64 ((bits .and .u64 (shrI .u64 a0 1) 6148914691236517205) + (bits .and .u64 a0 6148914691236517205))) 2) 3689348814741910323) + (bits .and .u64 (wu64 ((bits .and .u64 (shrI .u64 a0 1) 6148914691236517205) + (bits .and .u64 a0 6148914691236517205))) 3689348814741910323))))) 1085102592571150095) 8))) 16))) 32))))) 127))
/-! loop.example/g03403/impl.ones -/
def impl_ones {β : Type} (N : Nat) (a0 : Int) (k : Int → Option β) : Option β :=
math_bits_OnesCount64 N ((wu64 (a0))) fun r2 =>
k r2
/-! (loop.example/g03403/impl.Table).tests -/
def impl_Table_tests_l2b {β : Type} (N : Nat)  (v0 : Int) (v1 : Int) (v2 : Int) (v3 : Int) (v4 : Int) (v5 : Int) (v6 : Int) (rec_ : Int → Int → Int → Int → Int → Int → Int → Option β) (k0 : Bool → Option β) (k1 : Int → Int → Int → Int → Int → Option β) : Option β :=
(cond ((decide (v4 < 2)))
(impl_Table_detecting N v5 v6 v1 v4 fun r4 =>
(cond ((r4 != 0))
((cond (((bits .and .i64 r4 v0) == 0))
(k0 false)
(rec_ v0 v1 v2 v3 ((w64 (v4 + 1))) v5 v6)))
(rec_ v0 v1 v2 v3 ((w64 (v4 + 1))) v5 v6)))
(k1 v0 v2 v3 v5 v6))
def impl_Table_tests_l2 {β : Type} (N : Nat)  : Nat → Int → Int → Int → Int → Int → Int → Int → (Bool → Option β) → (Int → Int → Int → Int → Int → Option β) → Option β
  | 0, _, _, _, _, _, _, _, _, _ => none
  | F + 1, v0, v1, v2, v3, v4, v5, v6, k0, k1 => impl_Table_tests_l2b N  v0 v1 v2 v3 v4 v5 v6 (fun v0 v1 v2 v3 v4 v5 v6 => impl_Table_tests_l2 N  F v0 v1 v2 v3 v4 v5 v6 k0 k1) k0 k1
def impl_Table_tests_l0b {β : Type} (N : Nat)  (v0 : Int) (v1 : Int) (v2 : Int) (v3 : Int) (v4 : Int) (rec_ : Int → Int → Int → Int → Int → Option β) (k0 : Bool → Option β) (k1 : Option β) : Option β :=
(cond ((decide (v2 < v1)))
(impl_Table_tests_l2 N  N v0 v2 v1 v2 0 v3 v4 (fun e5_0 =>
k0 e5_0) (fun e6_0 e6_1 e6_2 e6_3 e6_4 =>
rec_ e6_0 e6_1 ((w64 (e6_2 + 1))) e6_3 e6_4))
(k1 ))
def impl_Table_tests_l0 {β : Type} (N : Nat)  : Nat → Int → Int → Int → Int → Int → (Bool → Option β) → (Option β) → Option β
  | 0, _, _, _, _, _, _, _ => none
  | F + 1, v0, v1, v2, v3, v4, k0, k1 => impl_Table_tests_l0b N  v0 v1 v2 v3 v4 (fun v0 v1 v2 v3 v4 => impl_Table_tests_l0 N  F v0 v1 v2 v3 v4 k0 k1) k0 k1
def impl_Table_tests {β : Type} (N : Nat) (a0 : Int) (a1 : Int) (a2 : Int) (k : Bool → Option β) : Option β :=
impl_Table_tests_l0 N  N a2 a0 0 a0 a1 (fun e7_0 =>
k e7_0) (k true)
/-! loop.example/g03403/impl.LeastTestSet -/
def impl_LeastTestSet_l0b {β : Type} (N : Nat)  (v0 : Int) (v1 : Int) (v2 : Int) (v3 : Int) (v4 : Int) (rec_ : Int → Int → Int → Int → Int → Option β) (k0 : Int → Option β) : Option β :=
(cond ((decide (v2 < v1)))
(impl_ones N v2 fun r6 =>
impl_ones N v0 fun r7 =>
(cond ((decide (r6 < r7)))
(impl_Table_tests N v3 v4 v2 fun r8 =>
(cond r8
(rec_ v2 v1 ((w64 (v2 + 1))) v3 v4)
(rec_ v0 v1 ((w64 (v2 + 1))) v3 v4)))
(rec_ v0 v1 ((w64 (v2 + 1))) v3 v4)))
(k0 v0))
def impl_LeastTestSet_l0 {β : Type} (N : Nat)  : Nat → Int → Int → Int → Int → Int → (Int → Option β) → Option β
  | 0, _, _, _, _, _, _ => none
  | F + 1, v0, v1, v2, v3, v4, k0 => impl_LeastTestSet_l0b N  v0 v1 v2 v3 v4 (fun v0 v1 v2 v3 v4 => impl_LeastTestSet_l0 N  F v0 v1 v2 v3 v4 k0) k0
def impl_LeastTestSet {β : Type} (N : Nat) (a0 : Int) (a1 : Int) (k : List Int → Bool → Option β) : Option β :=
impl_isSmall N a0 a1 3 fun r4 =>
(cond (!r4)
(k (([] : List Int)) false)
(impl_Table_size N a0 a1 fun r5 =>
(gd ((decide (0 ≤ r5)))
(impl_LeastTestSet_l0 N  N ((w64 ((shlI .i64 1 r5) - 1))) ((w64 ((shlI .i64 1 r5) - 1))) 0 a0 a1 (fun e9_0 =>
impl_elements N e9_0 fun r10 =>
k r10 true)))))
/-! loop.example/g03403/spec.l29Shows -/
def spec_l29Shows_l2b {β : Type} (N : Nat)  (v0 : Int) (v1 : Int) (v2 : Int) (v3 : Int) (v4 : Int) (rec_ : Int → Int → Int → Int → Int → Option β) (k0 : Bool → Option β) (k1 : Int → Int → Int → Int → Option β) : Option β :=
(cond ((decide (v2 < 2)))
(spec_l29Stuck N v3 v4 v1 v2 fun r4 r5 =>
(cond (((bits .xor .i64 v4 r5) != 0))
((cond (((bits .and .i64 (bits .xor .i64 v4 r5) v0) == 0))
(k0 false)
(rec_ v0 v1 ((w64 (v2 + 1))) v3 v4)))
(rec_ v0 v1 ((w64 (v2 + 1))) v3 v4)))
(k1 v0 v1 v3 v4))
def spec_l29Shows_l2 {β : Type} (N : Nat)  : Nat → Int → Int → Int → Int → Int → (Bool → Option β) → (Int → Int → Int → Int → Option β) → Option β
  | 0, _, _, _, _, _, _, _ => none
  | F + 1, v0, v1, v2, v3, v4, k0, k1 => spec_l29Shows_l2b N  v0 v1 v2 v3 v4 (fun v0 v1 v2 v3 v4 => spec_l29Shows_l2 N  F v0 v1 v2 v3 v4 k0 k1) k0 k1
def spec_l29Shows_l0b {β : Type} (N : Nat)  (v0 : Int) (v1 : Int) (v2 : Int) (v3 : Int) (rec_ : Int → Int → Int → Int → Option β) (k0 : Bool → Option β) (k1 : Option β) : Option β :=
(cond ((decide (v1 < v2)))
(spec_l29Shows_l2 N  N v0 v1 0 v2 v3 (fun e6_0 =>
k0 e6_0) (fun e7_0 e7_1 e7_2 e7_3 =>
rec_ e7_0 ((w64 (e7_1 + 1))) e7_2 e7_3))
(k1 ))
def spec_l29Shows_l0 {β : Type} (N : Nat)  : Nat → Int → Int → Int → Int → (Bool → Option β) → (Option β) → Option β
  | 0, _, _, _, _, _, _ => none
  | F + 1, v0, v1, v2, v3, k0, k1 => spec_l29Shows_l0b N  v0 v1 v2 v3 (fun v0 v1 v2 v3 => spec_l29Shows_l0 N  F v0 v1 v2 v3 k0 k1) k0 k1
def spec_l29Shows {β : Type} (N : Nat) (a0 : Int) (a1 : Int) (a2 : Int) (k : Bool → Option β) : Option β :=
spec_l29Shows_l0 N  N a2 0 a0 a1 (fun e8_0 =>
k e8_0) (k true)
/-! loop.example/g03403/spec.LeastTestSet -/
def spec_LeastTestSet_l0b {β : Type} (N : Nat)  (v0 : Int) (v1 : Int) (v2 : Int) (v3 : Int) (rec_ : Int → Int → Int → Int → Option β) (k0 : Int → Int → Int → Option β) : Option β :=
spec_l2Full N v2 fun r6 =>
(cond ((decide (v1 < r6)))
(spec_l2Count N v1 fun r7 =>
spec_l2Count N v0 fun r8 =>
(cond ((decide (r7 < r8)))
(spec_l29Shows N v2 v3 v1 fun r9 =>
(cond r9
(rec_ v1 ((w64 (v1 + 1))) v2 v3)
(rec_ v0 ((w64 (v1 + 1))) v2 v3)))
(rec_ v0 ((w64 (v1 + 1))) v2 v3)))
(k0 v0 v2 v3))
def spec_LeastTestSet_l0 {β : Type} (N : Nat)  : Nat → Int → Int → Int → Int → (Int → Int → Int → Option β) → Option β
  | 0, _, _, _, _, _ => none
  | F + 1, v0, v1, v2, v3, k0 => spec_LeastTestSet_l0b N  v0 v1 v2 v3 (fun v0 v1 v2 v3 => spec_LeastTestSet_l0 N  F v0 v1 v2 v3 k0) k0
def spec_LeastTestSet_l2b {β : Type} (N : Nat)  (v0 : Int) (v1 : Int) (v2 : Int) (v3 : Int) (v4 : List Int) (rec_ : Int → Int → Int → Int → List Int → Option β) (k0 : List Int → Option β) : Option β :=
(gd ((decide (0 ≤ v2)))
((cond ((decide (v1 < (shlI .i64 1 v2))))
((gd ((decide (0 ≤ v1)))
((cond (((bits .and .i64 (shrI .i64 v0 v1) 1) == 1))
((gd ((decide ((v4.length + ((([] : List Int) ++ [v1])).length) * 8 ≤ 140737488355328)))
(rec_ v0 ((w64 (v1 + 1))) v2 v3 ((v4 ++ (([] : List Int) ++ [v1]))))))
(rec_ v0 ((w64 (v1 + 1))) v2 v3 v4)))))
(k0 v4))))
def spec_LeastTestSet_l2 {β : Type} (N : Nat)  : Nat → Int → Int → Int → Int → List Int → (List Int → Option β) → Option β
  | 0, _, _, _, _, _, _ => none
  | F + 1, v0, v1, v2, v3, v4, k0 => spec_LeastTestSet_l2b N  v0 v1 v2 v3 v4 (fun v0 v1 v2 v3 v4 => spec_LeastTestSet_l2 N  F v0 v1 v2 v3 v4 k0) k0
def spec_LeastTestSet {β : Type} (N : Nat) (a0 : Int) (a1 : Int) (k : List Int → Bool → Option β) : Option β :=
spec_IsTable N a0 a1 fun r4 =>
(cond (!r4)
(k (([] : List Int)) false)
((cond ((decide (a0 > 3)))
(k (([] : List Int)) false)
(spec_l2Full N a0 fun r5 =>
spec_LeastTestSet_l0 N  N r5 0 a0 a1 (fun e10_0 e10_1 e10_2 =>
spec_LeastTestSet_l2 N  N e10_0 0 e10_1 e10_2 (([] : List Int)) (fun e11_0 =>
k e11_0 true))))))
/-! loop.example/g03403/impl.IsTestSet$1 -/
def impl_IsTestSet_1 {β : Type} (N : Nat) (a0 : Int) (c0 : Int) (c1 : Int) (k : Bool → Option β) : Option β :=
impl_isInput N c0 a0 fun r2 =>
k (!r2)
/-! slices.IndexFunc[[]int,int] -/
def slices_IndexFunc_Sint_int_l0b {β : Type} (N : Nat) (a1 : (Int → (Bool → Option β) → Option β)) (v0 : List Int) (v1 : Int) (v2 : Int) (rec_ : List Int → Int → Int → Option β) (k0 : Int → Option β) (k1 : Option β) : Option β :=
(cond ((decide (v2 < v1)))
((gd ((decide (0 ≤ v2)))
((gd ((decide (v2 < (v0.length : Int))))
(a1 ((rd 0 v0 v2)) fun r3 =>
(cond r3
(k0 v2)
(rec_ v0 v1 ((w64 (v2 + 1))))))))))
(k1 ))
def slices_IndexFunc_Sint_int_l0 {β : Type} (N : Nat) (a1 : (Int → (Bool → Option β) → Option β)) : Nat → List Int → Int → Int → (Int → Option β) → (Option β) → Option β
  | 0, _, _, _, _, _ => none
  | F + 1, v0, v1, v2, k0, k1 => slices_IndexFunc_Sint_int_l0b N a1 v0 v1 v2 (fun v0 v1 v2 => slices_IndexFunc_Sint_int_l0 N a1 F v0 v1 v2 k0 k1) k0 k1
def slices_IndexFunc_Sint_int {β : Type} (N : Nat) (a0 : List Int) (a1 : (Int → (Bool → Option β) → Option β)) (k : Int → Option β) : Option β :=
slices_IndexFunc_Sint_int_l0 N a1 N a0 ((a0.length : Int)) 0 (fun e4_0 =>
k e4_0) (k (-1))
/-! slices.ContainsFunc[[]int,int] -/
def slices_ContainsFunc_Sint_int {β : Type} (N : Nat) (a0 : List Int) (a1 : (Int → (Bool → Option β) → Option β)) (k : Bool → Option β) : Option β :=
slices_IndexFunc_Sint_int N a0 a1 fun r3 =>
k ((decide (r3 ≥ 0)))
/-! loop.example/g03403/impl.IsTestSet -/
def impl_IsTestSet_l0b {β : Type} (N : Nat)  (v0 : Int) (v1 : List Int) (v2 : Int) (v3 : Int) (v4 : Int) (v5 : Int) (rec_ : Int → List Int → Int → Int → Int → Int → Option β) (k0 : Int → Int → Int → Option β) : Option β :=
(cond ((decide (v3 < v2)))
((gd ((decide (0 ≤ v3)))
((gd ((decide (v3 < (v1.length : Int))))
((gd ((decide (0 ≤ (rd 0 v1 v3))))
(rec_ ((bits .or .i64 v0 (shlI .i64 1 (rd 0 v1 v3)))) v1 v2 ((w64 (v3 + 1))) v4 v5)))))))
(k0 v0 v4 v5))
def impl_IsTestSet_l0 {β : Type} (N : Nat)  : Nat → Int → List Int → Int → Int → Int → Int → (Int → Int → Int → Option β) → Option β
  | 0, _, _, _, _, _, _, _ => none
  | F + 1, v0, v1, v2, v3, v4, v5, k0 => impl_IsTestSet_l0b N  v0 v1 v2 v3 v4 v5 (fun v0 v1 v2 v3 v4 v5 => impl_IsTestSet_l0 N  F v0 v1 v2 v3 v4 v5 k0) k0
def impl_IsTestSet {β : Type} (N : Nat) (a0 : Int) (a1 : Int) (a2 : List Int) (k : Bool → Option β) : Option β :=
impl_IsTable N a0 a1 fun r4 =>
(cond (!r4)
(k false)
(slices_ContainsFunc_Sint_int N a2 (fun x0 k => impl_IsTestSet_1 N x0 a0 a1 k) fun r5 =>
(cond r5
(k false)
(impl_IsTestSet_l0 N  N 0 a2 ((a2.length : Int)) 0 a0 a1 (fun e6_0 e6_1 e6_2 =>
impl_Table_tests N e6_1 e6_2 e6_0 fun r7 =>
k r7)))))
/-! loop.example/g03403/impl.CountDetectable -/
def impl_CountDetectable_l2b {β : Type} (N : Nat)  (v0 : Int) (v1 : Int) (v2 : Int) (v3 : Int) (v4 : Int) (v5 : Int) (v6 : Int) (rec_ : Int → Int → Int → Int → Int → Int → Int → Option β) (k0 : Int → Int → Int → Int → Int → Option β) : Option β :=
(cond ((decide (v4 < 2)))
(impl_Table_detecting N v5 v6 v1 v4 fun r4 =>
(cond ((r4 != 0))
(rec_ ((w64 (v0 + 1))) v1 v2 v3 ((w64 (v4 + 1))) v5 v6)
(rec_ v0 v1 v2 v3 ((w64 (v4 + 1))) v5 v6)))
(k0 v0 v2 v3 v5 v6))
def impl_CountDetectable_l2 {β : Type} (N : Nat)  : Nat → Int → Int → Int → Int → Int → Int → Int → (Int → Int → Int → Int → Int → Option β) → Option β
  | 0, _, _, _, _, _, _, _, _ => none
  | F + 1, v0, v1, v2, v3, v4, v5, v6, k0 => impl_CountDetectable_l2b N  v0 v1 v2 v3 v4 v5 v6 (fun v0 v1 v2 v3 v4 v5 v6 => impl_CountDetectable_l2 N  F v0 v1 v2 v3 v4 v5 v6 k0) k0
def impl_CountDetectable_l0b {β : Type} (N : Nat)  (v0 : Int) (v1 : Int) (v2 : Int) (v3 : Int) (v4 : Int) (rec_ : Int → Int → Int → Int → Int → Option β) (k0 : Int → Option β) : Option β :=
(cond ((decide (v2 < v1)))
(impl_CountDetectable_l2 N  N v0 v2 v1 v2 0 v3 v4 (fun e5_0 e5_1 e5_2 e5_3 e5_4 =>
rec_ e5_0 e5_1 ((w64 (e5_2 + 1))) e5_3 e5_4))
(k0 v0))
def impl_CountDetectable_l0 {β : Type} (N : Nat)  : Nat → Int → Int → Int → Int → Int → (Int → Option β) → Option β
  | 0, _, _, _, _, _, _ => none
  | F + 1, v0, v1, v2, v3, v4, k0 => impl_CountDetectable_l0b N  v0 v1 v2 v3 v4 (fun v0 v1 v2 v3 v4 => impl_CountDetectable_l0 N  F v0 v1 v2 v3 v4 k0) k0
def impl_CountDetectable {β : Type} (N : Nat) (a0 : Int) (a1 : Int) (k : Int → Option β) : Option β :=
impl_IsTable N a0 a1 fun r3 =>
(cond (!r3)
(k (-1))
(impl_CountDetectable_l0 N  N 0 a0 0 a0 a1 (fun e6_0 =>
k e6_0)))
/-! (loop.example/g03403/impl.Table).not -/
def impl_Table_not {β : Type} (N : Nat) (a0 : Int) (a1 : Int) (k : Int → Int → Option β) : Option β :=
impl_Table_size N a0 a1 fun r4 =>
(gd ((decide (0 ≤ r4)))
(k a0 ((bits .xor .i64 a1 (w64 ((shlI .i64 1 r4) - 1))))))
/-! (loop.example/g03403/impl.Table).isSame -/
def impl_Table_isSame {β : Type} (N : Nat) (a0 : Int) (a1 : Int) (k : Bool → Option β) : Option β :=
(cond ((a1 == 0))
(k true)
(impl_Table_not N a0 a1 fun r3 r4 =>
k ((r4 == 0))))
/-! loop.example/g03403/impl.IsConstant -/
def impl_IsConstant {β : Type} (N : Nat) (a0 : Int) (a1 : Int) (k : Bool → Option β) : Option β :=
impl_IsTable N a0 a1 fun r3 =>
(cond r3
(impl_Table_isSame N a0 a1 fun r4 =>
k r4)
(k false))
/-! loop.example/g03403/spec.l9Both -/
def spec_l9Both {β : Type} (N : Nat) (a0 : List Int) (k : Int → Int → Int → Option β) : Option β :=
spec_l1New_g0 N a0 (fun r4_0 r4_1 r4_2 =>
spec_l2Any_g0 N r4_0 r4_1 r4_2 (fun r5_0 r5_1 r5_2 r5_3 r5_4 =>
spec_l1Below_g0 N 18 r5_2 r5_3 r5_4 (fun r6_0 r6_1 r6_2 r6_3 =>
k r5_0 r5_1 ((w64 (r6_0 - 1))))))
/-! loop.example/g03403/spec.DrawDetectedBy -/
def spec_DrawDetectedBy {β : Type} (N : Nat) (a0 : List Int) (k : Int → Int → Int → Option β) : Option β :=
spec_l9Both N a0 fun r4 r5 r6 =>
k r4 r5 r6
/-! loop.example/g03403/spec.l9In -/
def spec_l9In {β : Type} (N : Nat) (a0 : Int) (a1 : Int) (a2 : Int) (k : Bool → Option β) : Option β :=
spec_IsTable N a0 a1 fun r4 =>
(cond r4
((gd ((decide (0 ≤ a0)))
(spec_l1In N a2 0 ((w64 ((shlI .i64 1 a0) - 1))) fun r5 =>
k r5)))
(k false))
/-! loop.example/g03403/spec.DetectedBy -/
def spec_DetectedBy_l2b {β : Type} (N : Nat)  (v0 : Int) (v1 : Int) (v2 : Int) (v3 : Int) (v4 : Int) (v5 : List Int) (rec_ : Int → Int → Int → Int → Int → List Int → Option β) (k0 : Int → Int → Int → Int → List Int → Option β) : Option β :=
(cond ((decide (v2 < 2)))
(spec_l29Stuck N v3 v4 v1 v2 fun r5 r6 =>
(gd ((decide (0 ≤ v0)))
((gd ((decide (0 ≤ v0)))
((cond (((bits .and .i64 (bits .xor .i64 (shrI .i64 v4 v0) (shrI .i64 r6 v0)) 1) == 1))
((gd ((decide ((v5.length + ((([] : List Int) ++ [(w64 ((w64 (2 * v1)) + v2))])).length) * 8 ≤ 140737488355328)))
(rec_ v0 v1 ((w64 (v2 + 1))) v3 v4 ((v5 ++ (([] : List Int) ++ [(w64 ((w64 (2 * v1)) + v2))]))))))
(rec_ v0 v1 ((w64 (v2 + 1))) v3 v4 v5)))))))
(k0 v0 v1 v3 v4 v5))
def spec_DetectedBy_l2 {β : Type} (N : Nat)  : Nat → Int → Int → Int → Int → Int → List Int → (Int → Int → Int → Int → List Int → Option β) → Option β
  | 0, _, _, _, _, _, _, _ => none
  | F + 1, v0, v1, v2, v3, v4, v5, k0 => spec_DetectedBy_l2b N  v0 v1 v2 v3 v4 v5 (fun v0 v1 v2 v3 v4 v5 => spec_DetectedBy_l2 N  F v0 v1 v2 v3 v4 v5 k0) k0
def spec_DetectedBy_l0b {β : Type} (N : Nat)  (v0 : Int) (v1 : Int) (v2 : Int) (v3 : Int) (v4 : List Int) (rec_ : Int → Int → Int → Int → List Int → Option β) (k0 : List Int → Option β) : Option β :=
spec_l9In N v2 v3 v0 fun r4 =>
(cond r4
((cond ((decide (v1 < v2)))
(spec_DetectedBy_l2 N  N v0 v1 0 v2 v3 v4 (fun e7_0 e7_1 e7_2 e7_3 e7_4 =>
rec_ e7_0 ((w64 (e7_1 + 1))) e7_2 e7_3 e7_4))
(k0 v4)))
(k0 v4))
def spec_DetectedBy_l0 {β : Type} (N : Nat)  : Nat → Int → Int → Int → Int → List Int → (List Int → Option β) → Option β
  | 0, _, _, _, _, _, _ => none
  | F + 1, v0, v1, v2, v3, v4, k0 => spec_DetectedBy_l0b N  v0 v1 v2 v3 v4 (fun v0 v1 v2 v3 v4 => spec_DetectedBy_l0 N  F v0 v1 v2 v3 v4 k0) k0
def spec_DetectedBy {β : Type} (N : Nat) (a0 : Int) (a1 : Int) (a2 : Int) (k : List Int → Option β) : Option β :=
spec_DetectedBy_l0 N  N a2 0 a0 a1 (([] : List Int)) (fun e8_0 =>
k e8_0)
/-! (loop.example/g03403/impl.Table).sensitivity -/
def impl_Table_sensitivity_l0b {β : Type} (N : Nat)  (v0 : Int) (v1 : Int) (v2 : Int) (v3 : Int) (v4 : Int) (v5 : Int) (rec_ : Int → Int → Int → Int → Int → Int → Option β) (k0 : Int → Option β) : Option β :=
(cond ((decide (v3 < v2)))
((gd ((decide (0 ≤ v3)))
(impl_Table_changes N v4 v5 v0 ((shlI .i64 1 v3)) fun r4 =>
(cond r4
(rec_ v0 ((w64 (v1 + 1))) v2 ((w64 (v3 + 1))) v4 v5)
(rec_ v0 v1 v2 ((w64 (v3 + 1))) v4 v5)))))
(k0 v1))
def impl_Table_sensitivity_l0 {β : Type} (N : Nat)  : Nat → Int → Int → Int → Int → Int → Int → (Int → Option β) → Option β
  | 0, _, _, _, _, _, _, _ => none
  | F + 1, v0, v1, v2, v3, v4, v5, k0 => impl_Table_sensitivity_l0b N  v0 v1 v2 v3 v4 v5 (fun v0 v1 v2 v3 v4 v5 => impl_Table_sensitivity_l0 N  F v0 v1 v2 v3 v4 v5 k0) k0
def impl_Table_sensitivity {β : Type} (N : Nat) (a0 : Int) (a1 : Int) (a2 : Int) (k : Int → Option β) : Option β :=
impl_Table_sensitivity_l0 N  N a2 0 a0 0 a0 a1 (fun e5_0 =>
k e5_0)
/-! loop.example/g03403/impl.SensitivityAt -/
def impl_SensitivityAt {β : Type} (N : Nat) (a0 : Int) (a1 : Int) (a2 : Int) (k : Int → Option β) : Option β :=
impl_hasInput N a0 a1 a2 fun r4 =>
(cond (!r4)
(k (-1))
(impl_Table_sensitivity N a0 a1 a2 fun r5 =>
k r5))
/-! loop.example/g03403/spec.DrawIsTestSet -/
def spec_DrawIsTestSet_s6 {β : Type} (s0 : Int) (s1 : Int) (s2 : List Int) (K : Option β) : Option β :=
(gd (s0 == s0) (gd (s1 == s1) (gd (s2 == s2) K)))
def spec_DrawIsTestSet {β : Type} (N : Nat) (a0 : List Int) (k : Int → Int → List Int → Option β) : Option β :=
spec_l1New_g0 N a0 (fun r4_0 r4_1 r4_2 =>
spec_l22Small_g0 N r4_0 r4_1 r4_2 (fun r5_0 r5_1 r5_2 r5_3 r5_4 =>
spec_LeastTestSet N r5_0 r5_1 fun r6 r7 =>
(cond r7
(spec_l1Once_g0 N 3 r5_2 r5_3 r5_4 (fun r8_0 r8_1 r8_2 r8_3 =>
(cond (!r8_0)
(k r5_0 r5_1 r6)
(spec_l1Below_g0 N 9 r8_1 r8_2 r8_3 (fun r9_0 r9_1 r9_2 r9_3 =>
spec_l1Below_g0 N 8 r9_1 r9_2 r9_3 (fun r10_0 r10_1 r10_2 r10_3 =>
spec_l1Below_g0 N 8 r10_1 r10_2 r10_3 (fun r11_0 r11_1 r11_2 r11_3 =>
(spec_DrawIsTestSet_s6 r5_0 r5_1 ((((([] : List Int) ++ [(w64 (r9_0 - 1))]) ++ [r10_0]) ++ [r11_0]))
(k r5_0 r5_1 ((((([] : List Int) ++ [(w64 (r9_0 - 1))]) ++ [r10_0]) ++ [r11_0])))))))))))
(spec_l1Below_g0 N 9 r5_2 r5_3 r5_4 (fun r12_0 r12_1 r12_2 r12_3 =>
spec_l1Below_g0 N 8 r12_1 r12_2 r12_3 (fun r13_0 r13_1 r13_2 r13_3 =>
spec_l1Below_g0 N 8 r13_1 r13_2 r13_3 (fun r14_0 r14_1 r14_2 r14_3 =>
(spec_DrawIsTestSet_s6 r5_0 r5_1 ((((([] : List Int) ++ [(w64 (r12_0 - 1))]) ++ [r13_0]) ++ [r14_0]))
(k r5_0 r5_1 ((((([] : List Int) ++ [(w64 (r12_0 - 1))]) ++ [r13_0]) ++ [r14_0])))))))))))
/-! loop.example/g03403/spec.DrawStuckTable -/
def spec_DrawStuckTable {β : Type} (N : Nat) (a0 : List Int) (k : Int → Int → Int → Int → Option β) : Option β :=
spec_DrawRestrictTable N a0 fun r5 r6 r7 r8 =>
k r5 r6 r7 r8
/-! loop.example/g03403/impl.StuckTable -/
def impl_StuckTable {β : Type} (N : Nat) (a0 : Int) (a1 : Int) (a2 : Int) (a3 : Int) (k : Int → Int → Bool → Option β) : Option β :=
impl_hasVariable N a0 a1 a2 fun r7 =>
(cond (!r7)
(k 0 0 false)
(impl_isBit N a3 fun r8 =>
(cond (!r8)
(k 0 0 false)
(impl_Table_stuck N a0 a1 a2 a3 fun r9 r10 =>
k r9 r10 true))))
/-! loop.example/g03403/spec.DrawCountDetectable -/
def spec_DrawCountDetectable {β : Type} (N : Nat) (a0 : List Int) (k : Int → Int → Option β) : Option β :=
spec_l1New_g0 N a0 (fun r3_0 r3_1 r3_2 =>
spec_l2Any_g0 N r3_0 r3_1 r3_2 (fun r4_0 r4_1 r4_2 r4_3 r4_4 =>
k r4_0 r4_1))
/-! loop.example/g03403/spec.IsTestSet -/
def spec_IsTestSet_l0b {β : Type} (N : Nat)  (v0 : List Int) (v1 : Int) (v2 : Int) (v3 : Int) (v4 : Int) (rec_ : List Int → Int → Int → Int → Int → Option β) (k0 : Bool → Option β) (k1 : Int → Int → Int → Option β) : Option β :=
(cond ((decide (v2 < (v0.length : Int))))
((gd ((decide (0 ≤ v2)))
((gd ((decide (v2 < (v0.length : Int))))
(spec_l9In N v3 v4 ((rd 0 v0 v2)) fun r4 =>
(cond (!r4)
(k0 false)
((gd ((decide (0 ≤ v2)))
((gd ((decide (v2 < (v0.length : Int))))
((gd ((decide (0 ≤ (rd 0 v0 v2))))
(rec_ v0 ((bits .or .i64 v1 (shlI .i64 1 (rd 0 v0 v2)))) ((w64 (v2 + 1))) v3 v4)))))))))))))
(k1 v1 v3 v4))
def spec_IsTestSet_l0 {β : Type} (N : Nat)  : Nat → List Int → Int → Int → Int → Int → (Bool → Option β) → (Int → Int → Int → Option β) → Option β
  | 0, _, _, _, _, _, _, _ => none
  | F + 1, v0, v1, v2, v3, v4, k0, k1 => spec_IsTestSet_l0b N  v0 v1 v2 v3 v4 (fun v0 v1 v2 v3 v4 => spec_IsTestSet_l0 N  F v0 v1 v2 v3 v4 k0 k1) k0 k1
def spec_IsTestSet {β : Type} (N : Nat) (a0 : Int) (a1 : Int) (a2 : List Int) (k : Bool → Option β) : Option β :=
spec_IsTestSet_l0 N  N a2 0 0 a0 a1 (fun e5_0 =>
k e5_0) (fun e6_0 e6_1 e6_2 =>
spec_IsTable N e6_1 e6_2 fun r7 =>
(cond r7
(spec_l29Shows N e6_1 e6_2 e6_0 fun r8 =>
k r8)
(k false)))
/-! loop.example/g03403/spec.l3Insert -/
def spec_l3Insert {β : Type} (N : Nat) (a0 : Int) (a1 : Int) (a2 : Int) (k : Int → Option β) : Option β :=
(gd ((decide (0 ≤ a1)))
((gd ((decide (0 ≤ a1)))
((gd ((decide (0 ≤ (w64 (a1 + 1)))))
((gd ((decide (0 ≤ a1)))
(k ((bits .or .i64 (bits .or .i64 (shlI .i64 (shrI .i64 a0 a1) (w64 (a1 + 1))) (shlI .i64 a2 a1)) (bits .and .i64 a0 (w64 ((shlI .i64 1 a1) - 1)))))))))))))
/-! loop.example/g03403/spec.l3Restrict -/
def spec_l3Restrict_l0b {β : Type} (N : Nat)  (v0 : Int) (v1 : Int) (v2 : Int) (v3 : Int) (v4 : Int) (v5 : Int) (v6 : Int) (v7 : Int) (rec_ : Int → Int → Int → Int → Int → Int → Int → Int → Option β) (k0 : Int → Int → Int → Int → Int → Option β) : Option β :=
(gd ((decide (0 ≤ (w64 (v4 - 1)))))
((cond ((decide (v3 < (shlI .i64 1 (w64 (v4 - 1))))))
(spec_l3Insert N v3 v0 v1 fun r6 =>
(gd ((decide (0 ≤ r6)))
((gd ((decide (0 ≤ v3)))
(rec_ v0 v1 ((bits .or .i64 v2 (shlI .i64 (bits .and .i64 (shrI .i64 v5 r6) 1) v3))) ((w64 (v3 + 1))) v4 v5 v6 v7)))))
(k0 v2 v4 v5 v6 v7))))
def spec_l3Restrict_l0 {β : Type} (N : Nat)  : Nat → Int → Int → Int → Int → Int → Int → Int → Int → (Int → Int → Int → Int → Int → Option β) → Option β
  | 0, _, _, _, _, _, _, _, _, _ => none
  | F + 1, v0, v1, v2, v3, v4, v5, v6, v7, k0 => spec_l3Restrict_l0b N  v0 v1 v2 v3 v4 v5 v6 v7 (fun v0 v1 v2 v3 v4 v5 v6 v7 => spec_l3Restrict_l0 N  F v0 v1 v2 v3 v4 v5 v6 v7 k0) k0
def spec_l3Restrict {β : Type} (N : Nat) (a0 : Int) (a1 : Int) (a2 : Int) (a3 : Int) (k : Int → Int → Option β) : Option β :=
spec_l3Restrict_l0 N  N a2 a3 0 0 a0 a1 0 0 (fun e7_0 e7_1 e7_2 e7_3 e7_4 =>
k ((w64 (e7_1 - 1))) e7_0)
/-! loop.example/g03403/spec.l3Depends -/
def spec_l3Depends {β : Type} (N : Nat) (a0 : Int) (a1 : Int) (a2 : Int) (k : Bool → Option β) : Option β :=
spec_l3Restrict N a0 a1 a2 0 fun r4 r5 =>
spec_l3Restrict N a0 a1 a2 1 fun r6 r7 =>
k ((r5 != r7))
/-! loop.example/g03403/spec.VariablesOf -/
def spec_VariablesOf_l0b {β : Type} (N : Nat)  (v0 : Int) (v1 : Int) (v2 : Int) (v3 : List Int) (rec_ : Int → Int → Int → List Int → Option β) (k0 : List Int → Option β) : Option β :=
spec_IsTable N v1 v2 fun r3 =>
(cond r3
((cond ((decide (v0 < v1)))
(spec_l3Depends N v1 v2 v0 fun r4 =>
(cond r4
((gd ((decide ((v3.length + ((([] : List Int) ++ [v0])).length) * 8 ≤ 140737488355328)))
(rec_ ((w64 (v0 + 1))) v1 v2 ((v3 ++ (([] : List Int) ++ [v0]))))))
(rec_ ((w64 (v0 + 1))) v1 v2 v3)))
(k0 v3)))
(k0 v3))
def spec_VariablesOf_l0 {β : Type} (N : Nat)  : Nat → Int → Int → Int → List Int → (List Int → Option β) → Option β
  | 0, _, _, _, _, _ => none
  | F + 1, v0, v1, v2, v3, k0 => spec_VariablesOf_l0b N  v0 v1 v2 v3 (fun v0 v1 v2 v3 => spec_VariablesOf_l0 N  F v0 v1 v2 v3 k0) k0
def spec_VariablesOf {β : Type} (N : Nat) (a0 : Int) (a1 : Int) (k : List Int → Option β) : Option β :=
spec_VariablesOf_l0 N  N 0 a0 a1 (([] : List Int)) (fun e5_0 =>
k e5_0)
/-! loop.example/g03403/spec.CountDetectable -/
def spec_CountDetectable {β : Type} (N : Nat) (a0 : Int) (a1 : Int) (k : Int → Option β) : Option β :=
spec_IsTable N a0 a1 fun r3 =>
(cond (!r3)
(k (-1))
(spec_VariablesOf N a0 a1 fun r4 =>
k ((w64 (2 * (r4.length : Int))))))
/-! loop.example/g03403/laws.FnFaults -/
def laws_FnFaults_l0b {β : Type} (N : Nat)  (v0 : List Int) (v1 : Int) (v2 : Int) (v3 : Int) (v4 : Int) (v5 : Int) (v6 : List Int) (rec_ : List Int → Int → Int → Int → Int → Int → List Int → Option β) (k0 : Bool → Option β) (k1 : List Int → Option β) : Option β :=
(cond ((decide (v3 < (v6.length : Int))))
((gd ((decide (0 ≤ v3)))
((gd ((decide (v3 < (v6.length : Int))))
(impl_DetectedBy N v4 v5 ((rd 0 v6 v3)) fun r13 =>
laws_has N r13 ((w64 ((w64 (2 * v1)) + v2))) fun r14 =>
(cond (!r14)
(k0 false)
((gd ((decide (0 ≤ v3)))
((gd ((decide (v3 < (v6.length : Int))))
((gd ((decide (0 ≤ v1)))
((cond (((bits .and .i64 (shrI .i64 (rd 0 v6 v3) v1) 1) == v2))
(k0 false)
(rec_ v0 v1 v2 ((w64 (v3 + 1))) v4 v5 v6)))))))))))))))
(k1 v0))
def laws_FnFaults_l0 {β : Type} (N : Nat)  : Nat → List Int → Int → Int → Int → Int → Int → List Int → (Bool → Option β) → (List Int → Option β) → Option β
  | 0, _, _, _, _, _, _, _, _, _ => none
  | F + 1, v0, v1, v2, v3, v4, v5, v6, k0, k1 => laws_FnFaults_l0b N  v0 v1 v2 v3 v4 v5 v6 (fun v0 v1 v2 v3 v4 v5 v6 => laws_FnFaults_l0 N  F v0 v1 v2 v3 v4 v5 v6 k0 k1) k0 k1
def laws_FnFaults_l4b {β : Type} (N : Nat)  (v0 : List Int) (v1 : Int) (v2 : Int) (v3 : Bool) (v4 : Int) (v5 : Int) (v6 : Int) (v7 : List Int) (rec_ : List Int → Int → Int → Bool → Int → Int → Int → List Int → Option β) (k0 : List Int → Int → Int → Bool → Int → Int → List Int → Option β) : Option β :=
(cond ((decide (v4 < (v7.length : Int))))
((cond v3
(rec_ v0 v1 v2 true ((w64 (v4 + 1))) v5 v6 v7)
((gd ((decide (0 ≤ v4)))
((gd ((decide (v4 < (v7.length : Int))))
(impl_DetectedBy N v5 v6 ((rd 0 v7 v4)) fun r24 =>
laws_has N r24 v2 fun r25 =>
rec_ v0 v1 v2 r25 ((w64 (v4 + 1))) v5 v6 v7)))))))
(k0 v0 v1 v2 v3 v5 v6 v7))
def laws_FnFaults_l4 {β : Type} (N : Nat)  : Nat → List Int → Int → Int → Bool → Int → Int → Int → List Int → (List Int → Int → Int → Bool → Int → Int → List Int → Option β) → Option β
  | 0, _, _, _, _, _, _, _, _, _ => none
  | F + 1, v0, v1, v2, v3, v4, v5, v6, v7, k0 => laws_FnFaults_l4b N  v0 v1 v2 v3 v4 v5 v6 v7 (fun v0 v1 v2 v3 v4 v5 v6 v7 => laws_FnFaults_l4 N  F v0 v1 v2 v3 v4 v5 v6 v7 k0) k0
def laws_FnFaults_l2b {β : Type} (N : Nat)  (v0 : List Int) (v1 : Int) (v2 : Int) (v3 : Int) (v4 : Int) (v5 : List Int) (rec_ : List Int → Int → Int → Int → Int → List Int → Option β) (k0 : List Int → Int → Int → Int → List Int → Option β) : Option β :=
(cond ((decide (v2 < (w64 (2 * v3)))))
(laws_FnFaults_l4 N  N v0 v1 v2 false 0 v3 v4 v5 (fun e26_0 e26_1 e26_2 e26_3 e26_4 e26_5 e26_6 =>
(cond e26_3
(rec_ e26_0 ((w64 (e26_1 + 1))) ((w64 (e26_2 + 1))) e26_4 e26_5 e26_6)
(rec_ e26_0 e26_1 ((w64 (e26_2 + 1))) e26_4 e26_5 e26_6))))
(k0 v0 v1 v3 v4 v5))
def laws_FnFaults_l2 {β : Type} (N : Nat)  : Nat → List Int → Int → Int → Int → Int → List Int → (List Int → Int → Int → Int → List Int → Option β) → Option β
  | 0, _, _, _, _, _, _, _ => none
  | F + 1, v0, v1, v2, v3, v4, v5, k0 => laws_FnFaults_l2b N  v0 v1 v2 v3 v4 v5 (fun v0 v1 v2 v3 v4 v5 => laws_FnFaults_l2 N  F v0 v1 v2 v3 v4 v5 k0) k0
def laws_FnFaults {β : Type} (N : Nat) (a0 : List Int) (k : Bool → Option β) : Option β :=
laws_big N a0 fun r2 =>
(cond r2
(k true)
(spec_DrawDetectingInputs N a0 fun r3 r4 r5 r6 =>
impl_DetectingInputs N r3 r4 r5 r6 fun r7 r8 =>
spec_DetectingInputs N r3 r4 r5 r6 fun r9 r10 =>
(cond ((!(r8 == r10)))
(k false)
(laws_sameInts N r7 r9 fun r11 =>
(cond (!r11)
(k false)
((cond r8
(impl_InfluenceOf N r3 r4 r5 fun r12 =>
(cond (((w64 (2 * (r9.length : Int))) != r12))
(k false)
(laws_FnFaults_l0 N  N a0 r5 r6 0 r3 r4 r9 (fun e15_0 =>
k e15_0) (fun e16_0 =>
spec_DrawLeastTestSet N e16_0 fun r17 r18 =>
impl_LeastTestSet N r17 r18 fun r19 r20 =>
spec_LeastTestSet N r17 r18 fun r21 r22 =>
(cond ((!(r20 == r22)))
(k false)
(laws_sameInts N r19 r21 fun r23 =>
(cond (!r23)
(k false)
((cond r20
(laws_FnFaults_l2 N  N e16_0 0 0 r17 r18 r21 (fun e27_0 e27_1 e27_2 e27_3 e27_4 =>
impl_IsTestSet N e27_2 e27_3 e27_4 fun r28 =>
(cond (!r28)
(k false)
(impl_CountDetectable N e27_2 e27_3 fun r29 =>
(cond ((e27_1 != r29))
(k false)
(impl_IsConstant N e27_2 e27_3 fun r30 =>
(cond ((!(((e27_4.length : Int) == 0) == r30)))
(k false)
(spec_DrawDetectedBy N e27_0 fun r31 r32 r33 =>
impl_DetectedBy N r31 r32 r33 fun r34 =>
spec_DetectedBy N r31 r32 r33 fun r35 =>
laws_sameInts N r34 r35 fun r36 =>
(cond (!r36)
(k false)
(impl_SensitivityAt N r31 r32 r33 fun r37 =>
(cond ((decide (r37 ≥ 0)))
(impl_SensitivityAt N r31 r32 r33 fun r38 =>
(cond (((r34.length : Int) != r38))
(k false)
(spec_DrawIsTestSet N e27_0 fun r39 r40 r41 =>
spec_DrawStuckTable N e27_0 fun r42 r43 r44 r45 =>
impl_StuckTable N r42 r43 r44 r45 fun r46 r47 r48 =>
spec_StuckTable N r42 r43 r44 r45 fun r49 r50 r51 =>
spec_DrawCountDetectable N e27_0 fun r52 r53 =>
impl_IsTestSet N r39 r40 r41 fun r54 =>
spec_IsTestSet N r39 r40 r41 fun r55 =>
(cond ((r54 == r55))
((cond (((r46 == r49) && (r47 == r50)))
((cond ((r48 == r51))
(impl_CountDetectable N r52 r53 fun r56 =>
spec_CountDetectable N r52 r53 fun r57 =>
k ((r56 == r57)))
(k false)))
(k false)))
(k false)))))
(spec_DrawIsTestSet N e27_0 fun r58 r59 r60 =>
spec_DrawStuckTable N e27_0 fun r61 r62 r63 r64 =>
impl_StuckTable N r61 r62 r63 r64 fun r65 r66 r67 =>
spec_StuckTable N r61 r62 r63 r64 fun r68 r69 r70 =>
spec_DrawCountDetectable N e27_0 fun r71 r72 =>
impl_IsTestSet N r58 r59 r60 fun r73 =>
spec_IsTestSet N r58 r59 r60 fun r74 =>
(cond ((r73 == r74))
((cond (((r65 == r68) && (r66 == r69)))
((cond ((r67 == r70))
(impl_CountDetectable N r71 r72 fun r75 =>
spec_CountDetectable N r71 r72 fun r76 =>
k ((r75 == r76)))
(k false)))
(k false)))
(k false))))))))))))))
(spec_DrawDetectedBy N e16_0 fun r77 r78 r79 =>
impl_DetectedBy N r77 r78 r79 fun r80 =>
spec_DetectedBy N r77 r78 r79 fun r81 =>
laws_sameInts N r80 r81 fun r82 =>
(cond (!r82)
(k false)
(impl_SensitivityAt N r77 r78 r79 fun r83 =>
(cond ((decide (r83 ≥ 0)))
(impl_SensitivityAt N r77 r78 r79 fun r84 =>
(cond (((r80.length : Int) != r84))
(k false)
(spec_DrawIsTestSet N e16_0 fun r85 r86 r87 =>
spec_DrawStuckTable N e16_0 fun r88 r89 r90 r91 =>
impl_StuckTable N r88 r89 r90 r91 fun r92 r93 r94 =>
spec_StuckTable N r88 r89 r90 r91 fun r95 r96 r97 =>
spec_DrawCountDetectable N e16_0 fun r98 r99 =>
impl_IsTestSet N r85 r86 r87 fun r100 =>
spec_IsTestSet N r85 r86 r87 fun r101 =>
(cond ((r100 == r101))
((cond (((r92 == r95) && (r93 == r96)))
((cond ((r94 == r97))
(impl_CountDetectable N r98 r99 fun r102 =>
spec_CountDetectable N r98 r99 fun r103 =>
k ((r102 == r103)))
(k false)))
(k false)))
(k false)))))
(spec_DrawIsTestSet N e16_0 fun r104 r105 r106 =>
spec_DrawStuckTable N e16_0 fun r107 r108 r109 r110 =>
impl_StuckTable N r107 r108 r109 r110 fun r111 r112 r113 =>
spec_StuckTable N r107 r108 r109 r110 fun r114 r115 r116 =>
spec_DrawCountDetectable N e16_0 fun r117 r118 =>
impl_IsTestSet N r104 r105 r106 fun r119 =>
spec_IsTestSet N r104 r105 r106 fun r120 =>
(cond ((r119 == r120))
((cond (((r111 == r114) && (r112 == r115)))
((cond ((r113 == r116))
(impl_CountDetectable N r117 r118 fun r121 =>
spec_CountDetectable N r117 r118 fun r122 =>
k ((r121 == r122)))
(k false)))
(k false)))
(k false))))))))))))))))
(spec_DrawLeastTestSet N a0 fun r123 r124 =>
impl_LeastTestSet N r123 r124 fun r125 r126 =>
spec_LeastTestSet N r123 r124 fun r127 r128 =>
(cond ((!(r126 == r128)))
(k false)
(laws_sameInts N r125 r127 fun r129 =>
(cond (!r129)
(k false)
((cond r126
(laws_FnFaults_l2 N  N a0 0 0 r123 r124 r127 (fun e130_0 e130_1 e130_2 e130_3 e130_4 =>
impl_IsTestSet N e130_2 e130_3 e130_4 fun r131 =>
(cond (!r131)
(k false)
(impl_CountDetectable N e130_2 e130_3 fun r132 =>
(cond ((e130_1 != r132))
(k false)
(impl_IsConstant N e130_2 e130_3 fun r133 =>
(cond ((!(((e130_4.length : Int) == 0) == r133)))
(k false)
(spec_DrawDetectedBy N e130_0 fun r134 r135 r136 =>
impl_DetectedBy N r134 r135 r136 fun r137 =>
spec_DetectedBy N r134 r135 r136 fun r138 =>
laws_sameInts N r137 r138 fun r139 =>
(cond (!r139)
(k false)
(impl_SensitivityAt N r134 r135 r136 fun r140 =>
(cond ((decide (r140 ≥ 0)))
(impl_SensitivityAt N r134 r135 r136 fun r141 =>
(cond (((r137.length : Int) != r141))
(k false)
(spec_DrawIsTestSet N e130_0 fun r142 r143 r144 =>
spec_DrawStuckTable N e130_0 fun r145 r146 r147 r148 =>
impl_StuckTable N r145 r146 r147 r148 fun r149 r150 r151 =>
spec_StuckTable N r145 r146 r147 r148 fun r152 r153 r154 =>
spec_DrawCountDetectable N e130_0 fun r155 r156 =>
impl_IsTestSet N r142 r143 r144 fun r157 =>
spec_IsTestSet N r142 r143 r144 fun r158 =>
(cond ((r157 == r158))
((cond (((r149 == r152) && (r150 == r153)))
((cond ((r151 == r154))
(impl_CountDetectable N r155 r156 fun r159 =>
spec_CountDetectable N r155 r156 fun r160 =>
k ((r159 == r160)))
(k false)))
(k false)))
(k false)))))
(spec_DrawIsTestSet N e130_0 fun r161 r162 r163 =>
spec_DrawStuckTable N e130_0 fun r164 r165 r166 r167 =>
impl_StuckTable N r164 r165 r166 r167 fun r168 r169 r170 =>
spec_StuckTable N r164 r165 r166 r167 fun r171 r172 r173 =>
spec_DrawCountDetectable N e130_0 fun r174 r175 =>
impl_IsTestSet N r161 r162 r163 fun r176 =>
spec_IsTestSet N r161 r162 r163 fun r177 =>
(cond ((r176 == r177))
((cond (((r168 == r171) && (r169 == r172)))
((cond ((r170 == r173))
(impl_CountDetectable N r174 r175 fun r178 =>
spec_CountDetectable N r174 r175 fun r179 =>
k ((r178 == r179)))
(k false)))
(k false)))
(k false))))))))))))))
(spec_DrawDetectedBy N a0 fun r180 r181 r182 =>
impl_DetectedBy N r180 r181 r182 fun r183 =>
spec_DetectedBy N r180 r181 r182 fun r184 =>
laws_sameInts N r183 r184 fun r185 =>
(cond (!r185)
(k false)
(impl_SensitivityAt N r180 r181 r182 fun r186 =>
(cond ((decide (r186 ≥ 0)))
(impl_SensitivityAt N r180 r181 r182 fun r187 =>
(cond (((r183.length : Int) != r187))
(k false)
(spec_DrawIsTestSet N a0 fun r188 r189 r190 =>
spec_DrawStuckTable N a0 fun r191 r192 r193 r194 =>
impl_StuckTable N r191 r192 r193 r194 fun r195 r196 r197 =>
spec_StuckTable N r191 r192 r193 r194 fun r198 r199 r200 =>
spec_DrawCountDetectable N a0 fun r201 r202 =>
impl_IsTestSet N r188 r189 r190 fun r203 =>
spec_IsTestSet N r188 r189 r190 fun r204 =>
(cond ((r203 == r204))
((cond (((r195 == r198) && (r196 == r199)))
((cond ((r197 == r200))
(impl_CountDetectable N r201 r202 fun r205 =>
spec_CountDetectable N r201 r202 fun r206 =>
k ((r205 == r206)))
(k false)))
(k false)))
(k false)))))
(spec_DrawIsTestSet N a0 fun r207 r208 r209 =>
spec_DrawStuckTable N a0 fun r210 r211 r212 r213 =>
impl_StuckTable N r210 r211 r212 r213 fun r214 r215 r216 =>
spec_StuckTable N r210 r211 r212 r213 fun r217 r218 r219 =>
spec_DrawCountDetectable N a0 fun r220 r221 =>
impl_IsTestSet N r207 r208 r209 fun r222 =>
spec_IsTestSet N r207 r208 r209 fun r223 =>
(cond ((r222 == r223))
((cond (((r214 == r217) && (r215 == r218)))
((cond ((r216 == r219))
(impl_CountDetectable N r220 r221 fun r224 =>
spec_CountDetectable N r220 r221 fun r225 =>
k ((r224 == r225)))
(k false)))
(k false)))
(k false))))))))))))))))))))
end Go.Proofs.Ytdkjnadhgdneaaa
