/- The texts of the functions that the claims reach: plain Lean, no program. -/
import Derived.Test.YtddflpokemgnmaaRvLib
namespace Go.Proofs.Ytddflpokemgnmaa
open Go.Rv
set_option linter.unusedVariables false
set_option maxRecDepth 100000
/-! loop.example/g03403/laws.big -/
def laws_big {β : Type} (N : Nat) (a0 : List Int) (k : Bool → Option β) : Option β :=
k ((decide ((a0.length : Int) > 1048576)))
/-! loop.example/g03403/spec.l1New -/
def spec_l1New_l0b {β : Type} (N : Nat)  (v0 : List Int) (v1 : Int) (v2 : Int) (rec_ : List Int → Int → Int → Option β) (k0 : List Int → Int → Option β) : Option β :=
(cond ((decide (v2 < (v0.length : Int))))
((cond ((decide (v2 < 4000)))
((gd ((decide (0 ≤ v2)))
((gd ((decide (v2 < (v0.length : Int))))
(rec_ v0 ((bits .and .i64 (w64 ((w64 ((w64 (v1 * 131)) + (w64 ((rd 0 v0 v2))))) + 7)) 1073741823)) ((w64 (v2 + 1))))))))
(k0 v0 v1)))
(k0 v0 v1))
def spec_l1New_l0 {β : Type} (N : Nat)  : Nat → List Int → Int → Int → (List Int → Int → Option β) → Option β
  | 0, _, _, _, _ => none
  | F + 1, v0, v1, v2, k0 => spec_l1New_l0b N  v0 v1 v2 (fun v0 v1 v2 => spec_l1New_l0 N  F v0 v1 v2 k0) k0
def spec_l1New_g0 {β : Type} (N : Nat) (a0 : List Int) (k0 : List Int → Int → Int → Option β) : Option β :=
spec_l1New_l0 N  N a0 ((w64 (10101 + (a0.length : Int)))) 0 (fun e3_0 e3_1 =>
k0 e3_0 0 e3_1)
/-! loop.example/g03403/spec.l1Byte -/
def spec_l1Byte_g0 {β : Type} (N : Nat) (a0 : List Int) (a1 : Int) (a2 : Int) (k0 : Int → List Int → Int → Int → Option β) : Option β :=
(cond ((decide (a1 < (a0.length : Int))))
((gd ((decide (0 ≤ a1)))
((gd ((decide (a1 < (a0.length : Int))))
(k0 ((bits .and .i64 (w64 ((bits .and .i64 (bits .xor .i64 (shrI .i64 (w64 ((w64 (a2 * 6364136223846793005)) + 1442695040888963407)) 33) (shrI .i64 (w64 ((w64 (a2 * 6364136223846793005)) + 1442695040888963407)) 45)) 255) + (w64 ((rd 0 a0 a1))))) 255)) a0 ((w64 (a1 + 1))) ((w64 ((w64 (a2 * 6364136223846793005)) + 1442695040888963407))))))))
(k0 ((bits .and .i64 (bits .xor .i64 (shrI .i64 (w64 ((w64 (a2 * 6364136223846793005)) + 1442695040888963407)) 33) (shrI .i64 (w64 ((w64 (a2 * 6364136223846793005)) + 1442695040888963407)) 45)) 255)) a0 a1 ((w64 ((w64 (a2 * 6364136223846793005)) + 1442695040888963407)))))
/-! loop.example/g03403/spec.l1Below -/
def spec_l1Below_g0 {β : Type} (N : Nat) (a0 : Int) (a1 : List Int) (a2 : Int) (a3 : Int) (k0 : Int → List Int → Int → Int → Option β) : Option β :=
(cond ((decide (a0 ≤ 0)))
(k0 0 a1 a2 a3)
((cond ((decide (a0 ≤ 256)))
(spec_l1Byte_g0 N a1 a2 a3 (fun r5_0 r5_1 r5_2 r5_3 =>
(gd ((a0 != 0))
(k0 ((remI r5_0 a0)) r5_1 r5_2 r5_3))))
(spec_l1Byte_g0 N a1 a2 a3 (fun r6_0 r6_1 r6_2 r6_3 =>
spec_l1Byte_g0 N r6_1 r6_2 r6_3 (fun r7_0 r7_1 r7_2 r7_3 =>
spec_l1Byte_g0 N r7_1 r7_2 r7_3 (fun r8_0 r8_1 r8_2 r8_3 =>
spec_l1Byte_g0 N r8_1 r8_2 r8_3 (fun r9_0 r9_1 r9_2 r9_3 =>
(gd ((a0 != 0))
(k0 ((remI (w64 ((w64 ((w64 ((w64 (r6_0 * 16777216)) + (w64 (r7_0 * 65536)))) + (w64 (r8_0 * 256)))) + r9_0)) a0)) r9_1 r9_2 r9_3))))))))))
/-! loop.example/g03403/spec.l1Pick -/
def spec_l1Pick_g0 {β : Type} (N : Nat) (a0 : List Int) (a1 : Int) (a2 : Int) (a3 : List ByteArray) (k0 : ByteArray → List Int → Int → Int → List ByteArray → Option β) : Option β :=
spec_l1Below_g0 N ((a3.length : Int)) a0 a1 a2 (fun r10_0 r10_1 r10_2 r10_3 =>
(gd ((decide (0 ≤ r10_0)))
((gd ((decide (r10_0 < (a3.length : Int))))
(k0 ((rd ByteArray.empty a3 r10_0)) r10_1 r10_2 r10_3 a3)))))
/-! loop.example/g03403/spec.l1Once -/
def spec_l1Once_g0 {β : Type} (N : Nat) (a0 : Int) (a1 : List Int) (a2 : Int) (a3 : Int) (k0 : Bool → List Int → Int → Int → Option β) : Option β :=
spec_l1Below_g0 N a0 a1 a2 a3 (fun r12_0 r12_1 r12_2 r12_3 =>
k0 ((r12_0 == 0)) r12_1 r12_2 r12_3)
/-! loop.example/g03403/spec.l5Draw -/
def spec_l5Draw_g0_b {β : Type} (N : Nat) (self : Int → List Int → Int → Int → (ByteArray → List Int → Int → Int → Option β) → Option β) (a0 : Int) (a1 : List Int) (a2 : Int) (a3 : Int) (k0 : ByteArray → List Int → Int → Int → Option β) : Option β :=
(cond ((a0 == 0))
(spec_l1Pick_g0 N a1 a2 a3 (((((((((((([] : List ByteArray) ++ [(strOf [97])]) ++ [(strOf [98])]) ++ [(strOf [99])]) ++ [(strOf [100])]) ++ [(strOf [33, 97])]) ++ [(strOf [33, 98])]) ++ [(strOf [97])]) ++ [(strOf [98])]) ++ [(strOf [48])]) ++ [(strOf [49])])) (fun r5_0 r5_1 r5_2 r5_3 r5_4 =>
k0 r5_0 r5_1 r5_2 r5_3))
(spec_l1Once_g0 N 4 a1 a2 a3 (fun r6_0 r6_1 r6_2 r6_3 =>
(cond r6_0
(spec_l1Pick_g0 N r6_1 r6_2 r6_3 (((((((((((([] : List ByteArray) ++ [(strOf [97])]) ++ [(strOf [98])]) ++ [(strOf [99])]) ++ [(strOf [100])]) ++ [(strOf [33, 97])]) ++ [(strOf [33, 98])]) ++ [(strOf [97])]) ++ [(strOf [98])]) ++ [(strOf [48])]) ++ [(strOf [49])])) (fun r7_0 r7_1 r7_2 r7_3 r7_4 =>
k0 r7_0 r7_1 r7_2 r7_3))
(spec_l1Below_g0 N 7 r6_1 r6_2 r6_3 (fun r8_0 r8_1 r8_2 r8_3 =>
(cond ((r8_0 == 0))
(self ((w64 (a0 - 1))) r8_1 r8_2 r8_3 (fun r9_0 r9_1 r9_2 r9_3 =>
(gd ((decide (((strOf [33])).size + r9_0.size ≤ 9223372036854775807)))
(k0 (((strOf [33]) ++ r9_0)) r9_1 r9_2 r9_3))))
((cond ((r8_0 == 1))
(self ((w64 (a0 - 1))) r8_1 r8_2 r8_3 (fun r10_0 r10_1 r10_2 r10_3 =>
(gd ((decide (((strOf [94])).size + r10_0.size ≤ 9223372036854775807)))
(self ((w64 (a0 - 1))) r10_1 r10_2 r10_3 (fun r11_0 r11_1 r11_2 r11_3 =>
(gd ((decide ((((strOf [94]) ++ r10_0)).size + r11_0.size ≤ 9223372036854775807)))
(k0 ((((strOf [94]) ++ r10_0) ++ r11_0)) r11_1 r11_2 r11_3)))))))
((cond ((r8_0 == 2))
((cond ((r8_0 == 2))
(self ((w64 (a0 - 1))) r8_1 r8_2 r8_3 (fun r12_0 r12_1 r12_2 r12_3 =>
(gd ((decide (((strOf [124])).size + r12_0.size ≤ 9223372036854775807)))
(self ((w64 (a0 - 1))) r12_1 r12_2 r12_3 (fun r13_0 r13_1 r13_2 r13_3 =>
(gd ((decide ((((strOf [124]) ++ r12_0)).size + r13_0.size ≤ 9223372036854775807)))
(k0 ((((strOf [124]) ++ r12_0) ++ r13_0)) r13_1 r13_2 r13_3)))))))
(self ((w64 (a0 - 1))) r8_1 r8_2 r8_3 (fun r14_0 r14_1 r14_2 r14_3 =>
(gd ((decide (((strOf [38])).size + r14_0.size ≤ 9223372036854775807)))
(self ((w64 (a0 - 1))) r14_1 r14_2 r14_3 (fun r15_0 r15_1 r15_2 r15_3 =>
(gd ((decide ((((strOf [38]) ++ r14_0)).size + r15_0.size ≤ 9223372036854775807)))
(k0 ((((strOf [38]) ++ r14_0) ++ r15_0)) r15_1 r15_2 r15_3)))))))))
((cond ((r8_0 == 3))
(self ((w64 (a0 - 1))) r8_1 r8_2 r8_3 (fun r16_0 r16_1 r16_2 r16_3 =>
(gd ((decide (((strOf [124])).size + r16_0.size ≤ 9223372036854775807)))
(self ((w64 (a0 - 1))) r16_1 r16_2 r16_3 (fun r17_0 r17_1 r17_2 r17_3 =>
(gd ((decide ((((strOf [124]) ++ r16_0)).size + r17_0.size ≤ 9223372036854775807)))
(k0 ((((strOf [124]) ++ r16_0) ++ r17_0)) r17_1 r17_2 r17_3)))))))
(self ((w64 (a0 - 1))) r8_1 r8_2 r8_3 (fun r18_0 r18_1 r18_2 r18_3 =>
(gd ((decide (((strOf [38])).size + r18_0.size ≤ 9223372036854775807)))
(self ((w64 (a0 - 1))) r18_1 r18_2 r18_3 (fun r19_0 r19_1 r19_2 r19_3 =>
(gd ((decide ((((strOf [38]) ++ r18_0)).size + r19_0.size ≤ 9223372036854775807)))
(k0 ((((strOf [38]) ++ r18_0) ++ r19_0)) r19_1 r19_2 r19_3))))))))))))))))))))
def spec_l5Draw_g0_f {β : Type} (N : Nat) : Nat → Int → List Int → Int → Int → (ByteArray → List Int → Int → Int → Option β) → Option β
  | 0, _, _, _, _, _ => none
  | F + 1, a0, a1, a2, a3, k0 => spec_l5Draw_g0_b N (spec_l5Draw_g0_f N F) a0 a1 a2 a3 k0
def spec_l5Draw_g0 {β : Type} (N : Nat) (a0 : Int) (a1 : List Int) (a2 : Int) (a3 : Int) (k0 : ByteArray → List Int → Int → Int → Option β) : Option β := spec_l5Draw_g0_f N N a0 a1 a2 a3 k0
/-! loop.example/g03403/spec.l1Text -/
def spec_l1Text_l0b {β : Type} (N : Nat)  (v0 : Int) (v1 : Int) (v2 : List Int) (v3 : Int) (v4 : Int) (v5 : List Int) (rec_ : Int → Int → List Int → Int → Int → List Int → Option β) (k0 : List Int → Int → Int → List Int → Option β) : Option β :=
(cond ((decide (v1 > 0)))
(spec_l1Byte_g0 N v2 v3 v4 (fun r24_0 r24_1 r24_2 r24_3 =>
(cond ((v0 == 1))
((cond ((v0 == 2))
((gd ((decide ((v5.length + ((([] : List Int) ++ [(w8 ((w64 (97 + (remI (remI r24_0 2) 4)))))])).length) * 1 ≤ 140737488355328)))
(rec_ v0 ((w64 (v1 - 1))) r24_1 r24_2 r24_3 ((v5 ++ (([] : List Int) ++ [(w8 ((w64 (97 + (remI (remI r24_0 2) 4)))))]))))))
((gd ((decide ((v5.length + ((([] : List Int) ++ [(w8 ((remI r24_0 2)))])).length) * 1 ≤ 140737488355328)))
(rec_ v0 ((w64 (v1 - 1))) r24_1 r24_2 r24_3 ((v5 ++ (([] : List Int) ++ [(w8 ((remI r24_0 2)))]))))))))
((cond ((v0 == 2))
((gd ((decide ((v5.length + ((([] : List Int) ++ [(w8 ((w64 (97 + (remI r24_0 4)))))])).length) * 1 ≤ 140737488355328)))
(rec_ v0 ((w64 (v1 - 1))) r24_1 r24_2 r24_3 ((v5 ++ (([] : List Int) ++ [(w8 ((w64 (97 + (remI r24_0 4)))))]))))))
((gd ((decide ((v5.length + ((([] : List Int) ++ [(w8 (r24_0))])).length) * 1 ≤ 140737488355328)))
(rec_ v0 ((w64 (v1 - 1))) r24_1 r24_2 r24_3 ((v5 ++ (([] : List Int) ++ [(w8 (r24_0))])))))))))))
(k0 v2 v3 v4 v5))
def spec_l1Text_l0 {β : Type} (N : Nat)  : Nat → Int → Int → List Int → Int → Int → List Int → (List Int → Int → Int → List Int → Option β) → Option β
  | 0, _, _, _, _, _, _, _ => none
  | F + 1, v0, v1, v2, v3, v4, v5, k0 => spec_l1Text_l0b N  v0 v1 v2 v3 v4 v5 (fun v0 v1 v2 v3 v4 v5 => spec_l1Text_l0 N  F v0 v1 v2 v3 v4 v5 k0) k0
def spec_l1Text_g0 {β : Type} (N : Nat) (a0 : Int) (a1 : List Int) (a2 : Int) (a3 : Int) (k0 : ByteArray → List Int → Int → Int → Option β) : Option β :=
spec_l1Below_g0 N 4 a1 a2 a3 (fun r22_0 r22_1 r22_2 r22_3 =>
spec_l1Below_g0 N ((w64 (a0 + 1))) r22_1 r22_2 r22_3 (fun r23_0 r23_1 r23_2 r23_3 =>
spec_l1Text_l0 N  N r22_0 r23_0 r23_1 r23_2 r23_3 (([] : List Int)) (fun e25_0 e25_1 e25_2 e25_3 =>
k0 ((strOf e25_3)) e25_0 e25_1 e25_2)))
/-! loop.example/g03403/spec.l1Spoil -/
def spec_l1Spoil_g0 {β : Type} (N : Nat) (a0 : ByteArray) (a1 : List Int) (a2 : Int) (a3 : Int) (k0 : ByteArray → List Int → Int → Int → Option β) : Option β :=
(cond (((a0.size : Int) == 0))
(spec_l1Text_g0 N 3 a1 a2 a3 (fun r26_0 r26_1 r26_2 r26_3 =>
k0 r26_0 r26_1 r26_2 r26_3))
(spec_l1Below_g0 N ((a0.size : Int)) a1 a2 a3 (fun r27_0 r27_1 r27_2 r27_3 =>
spec_l1Below_g0 N 4 r27_1 r27_2 r27_3 (fun r28_0 r28_1 r28_2 r28_3 =>
(cond ((r28_0 == 0))
((gd ((decide (0 ≤ r27_0)))
((gd ((decide (r27_0 ≤ (a0.size : Int))))
((gd ((decide (0 ≤ (w64 (r27_0 + 1)))))
((gd ((decide ((w64 (r27_0 + 1)) ≤ (a0.size : Int))))
((gd ((decide (((a0.extract 0 (Int.toNat r27_0))).size + ((a0.extract (Int.toNat (w64 (r27_0 + 1))) a0.size)).size ≤ 9223372036854775807)))
(k0 (((a0.extract 0 (Int.toNat r27_0)) ++ (a0.extract (Int.toNat (w64 (r27_0 + 1))) a0.size))) r28_1 r28_2 r28_3)))))))))))
((cond ((r28_0 == 1))
((gd ((decide (0 ≤ r27_0)))
((gd ((decide (r27_0 ≤ (a0.size : Int))))
((gd ((decide (0 ≤ r27_0)))
((gd ((decide (r27_0 ≤ (a0.size : Int))))
(spec_l1Byte_g0 N r28_1 r28_2 r28_3 (fun r29_0 r29_1 r29_2 r29_3 =>
(gd ((decide (((a0.extract 0 (Int.toNat r27_0))).size + ((strOf ((([] : List Int) ++ [(w8 (r29_0))])))).size ≤ 9223372036854775807)))
((gd ((decide ((((a0.extract 0 (Int.toNat r27_0)) ++ (strOf ((([] : List Int) ++ [(w8 (r29_0))]))))).size + ((a0.extract (Int.toNat r27_0) a0.size)).size ≤ 9223372036854775807)))
(k0 ((((a0.extract 0 (Int.toNat r27_0)) ++ (strOf ((([] : List Int) ++ [(w8 (r29_0))])))) ++ (a0.extract (Int.toNat r27_0) a0.size))) r29_1 r29_2 r29_3))))))))))))))
((cond ((r28_0 == 2))
((gd ((decide (0 ≤ r27_0)))
((gd ((decide (r27_0 ≤ (a0.size : Int))))
(k0 ((a0.extract 0 (Int.toNat r27_0))) r28_1 r28_2 r28_3)))))
((gd ((decide (0 ≤ r27_0)))
((gd ((decide (r27_0 ≤ (a0.size : Int))))
((gd ((decide (0 ≤ r27_0)))
((gd ((decide (r27_0 < (a0.size : Int))))
((gd ((decide (0 ≤ (w64 (r27_0 + 1)))))
((gd ((decide ((w64 (r27_0 + 1)) ≤ (a0.size : Int))))
(spec_l1Below_g0 N 255 r28_1 r28_2 r28_3 (fun r30_0 r30_1 r30_2 r30_3 =>
(gd ((decide (((a0.extract 0 (Int.toNat r27_0))).size + ((strOf ((([] : List Int) ++ [(w8 ((bits .xor .i64 (w64 ((bt a0 r27_0))) (w64 (1 + r30_0)))))])))).size ≤ 9223372036854775807)))
((gd ((decide ((((a0.extract 0 (Int.toNat r27_0)) ++ (strOf ((([] : List Int) ++ [(w8 ((bits .xor .i64 (w64 ((bt a0 r27_0))) (w64 (1 + r30_0)))))]))))).size + ((a0.extract (Int.toNat (w64 (r27_0 + 1))) a0.size)).size ≤ 9223372036854775807)))
(k0 ((((a0.extract 0 (Int.toNat r27_0)) ++ (strOf ((([] : List Int) ++ [(w8 ((bits .xor .i64 (w64 ((bt a0 r27_0))) (w64 (1 + r30_0)))))])))) ++ (a0.extract (Int.toNat (w64 (r27_0 + 1))) a0.size))) r30_1 r30_2 r30_3)))))))))))))))))))))))))))
/-! loop.example/g03403/spec.l5Any -/
def spec_l5Any_g0 {β : Type} (N : Nat) (a0 : List Int) (a1 : Int) (a2 : Int) (k0 : ByteArray → List Int → Int → Int → Option β) : Option β :=
spec_l5Draw_g0 N 3 a0 a1 a2 (fun r20_0 r20_1 r20_2 r20_3 =>
spec_l1Once_g0 N 10 r20_1 r20_2 r20_3 (fun r21_0 r21_1 r21_2 r21_3 =>
(cond r21_0
(spec_l1Spoil_g0 N r20_0 r21_1 r21_2 r21_3 (fun r31_0 r31_1 r31_2 r31_3 =>
k0 r31_0 r31_1 r31_2 r31_3))
(k0 r20_0 r21_1 r21_2 r21_3))))
/-! loop.example/g03403/spec.l1PickInt -/
def spec_l1PickInt_g0 {β : Type} (N : Nat) (a0 : List Int) (a1 : Int) (a2 : Int) (a3 : List Int) (k0 : Int → List Int → Int → Int → List Int → Option β) : Option β :=
spec_l1Below_g0 N ((a3.length : Int)) a0 a1 a2 (fun r33_0 r33_1 r33_2 r33_3 =>
(gd ((decide (0 ≤ r33_0)))
((gd ((decide (r33_0 < (a3.length : Int))))
(k0 ((rd 0 a3 r33_0)) r33_1 r33_2 r33_3 a3)))))
/-! loop.example/g03403/spec.DrawTableOfFormula -/
def spec_DrawTableOfFormula {β : Type} (N : Nat) (a0 : List Int) (k : ByteArray → Int → Option β) : Option β :=
spec_l1New_g0 N a0 (fun r3_0 r3_1 r3_2 =>
spec_l5Any_g0 N r3_0 r3_1 r3_2 (fun r4_0 r4_1 r4_2 r4_3 =>
spec_l1PickInt_g0 N r4_1 r4_2 r4_3 (((((((((([] : List Int) ++ [4]) ++ [4]) ++ [5]) ++ [3]) ++ [2]) ++ [0]) ++ [(-1)]) ++ [6])) (fun r5_0 r5_1 r5_2 r5_3 r5_4 =>
k r4_0 r5_0)))
/-! loop.example/g03403/impl.isLetter -/
def impl_isLetter {β : Type} (N : Nat) (a0 : Int) (k : Bool → Option β) : Option β :=
(cond ((decide (a0 ≥ 97)))
(k ((decide (a0 < 102))))
(k false))
/-! loop.example/g03403/impl.readPart -/
def impl_readPart_b {β : Type} (N : Nat) (self : ByteArray → (Tr → ByteArray → Option β) → Option β) (a0 : ByteArray) (k : Tr → ByteArray → Option β) : Option β :=
(cond ((a0.toList == ByteArray.empty.toList))
(k Tr.nil ByteArray.empty)
((gd ((decide (0 < (a0.size : Int))))
((gd ((decide (1 ≤ (a0.size : Int))))
(impl_isLetter N ((bt a0 0)) fun r3 =>
(cond r3
(k ((Tr.node ((bt a0 0)) 0 Tr.nil Tr.nil)) ((a0.extract (Int.toNat 1) a0.size)))
((cond (((bt a0 0) == 48))
(k ((Tr.node ((bt a0 0)) 0 Tr.nil Tr.nil)) ((a0.extract (Int.toNat 1) a0.size)))
((cond (((bt a0 0) == 49))
(k ((Tr.node ((bt a0 0)) 0 Tr.nil Tr.nil)) ((a0.extract (Int.toNat 1) a0.size)))
((cond (((bt a0 0) == 33))
(self ((a0.extract (Int.toNat 1) a0.size)) fun r4 r5 =>
(cond ((Tr.isNil r4))
(k Tr.nil ByteArray.empty)
(k ((Tr.node ((bt a0 0)) 0 r4 Tr.nil)) r5)))
((cond (((bt a0 0) == 38))
(self ((a0.extract (Int.toNat 1) a0.size)) fun r6 r7 =>
(cond ((Tr.isNil r6))
(k Tr.nil ByteArray.empty)
(self r7 fun r8 r9 =>
(cond ((Tr.isNil r8))
(k Tr.nil ByteArray.empty)
(k ((Tr.node ((bt a0 0)) 0 r6 r8)) r9)))))
((cond (((bt a0 0) == 124))
(self ((a0.extract (Int.toNat 1) a0.size)) fun r10 r11 =>
(cond ((Tr.isNil r10))
(k Tr.nil ByteArray.empty)
(self r11 fun r12 r13 =>
(cond ((Tr.isNil r12))
(k Tr.nil ByteArray.empty)
(k ((Tr.node ((bt a0 0)) 0 r10 r12)) r13)))))
((cond (((bt a0 0) == 94))
(self ((a0.extract (Int.toNat 1) a0.size)) fun r14 r15 =>
(cond ((Tr.isNil r14))
(k Tr.nil ByteArray.empty)
(self r15 fun r16 r17 =>
(cond ((Tr.isNil r16))
(k Tr.nil ByteArray.empty)
(k ((Tr.node ((bt a0 0)) 0 r14 r16)) r17)))))
(k Tr.nil ByteArray.empty))))))))))))))))))))
def impl_readPart_f {β : Type} (N : Nat) : Nat → ByteArray → (Tr → ByteArray → Option β) → Option β
  | 0, _, _ => none
  | F + 1, a0, k => impl_readPart_b N (impl_readPart_f N F) a0 k
def impl_readPart {β : Type} (N : Nat) (a0 : ByteArray) (k : Tr → ByteArray → Option β) : Option β := impl_readPart_f N N a0 k
/-! loop.example/g03403/impl.readFormula -/
def impl_readFormula {β : Type} (N : Nat) (a0 : ByteArray) (k : Tr → Bool → Option β) : Option β :=
(cond ((decide ((a0.size : Int) > 60)))
(k Tr.nil false)
(impl_readPart N a0 fun r3 r4 =>
(cond ((!(Tr.isNil r3)))
(k r3 ((r4.toList == ByteArray.empty.toList)))
(k r3 false))))
/-! loop.example/g03403/impl.isBits -/
def impl_isBits {β : Type} (N : Nat) (a0 : Int) (k : Bool → Option β) : Option β :=
(cond ((decide (a0 ≥ 0)))
(k ((decide (a0 ≤ 5))))
(k false))
/-! (*loop.example/g03403/impl.part).isLeaf -/
def impl_part_isLeaf {β : Type} (N : Nat) (a0 : Tr) (k : Bool → Option β) : Option β :=
(gd ((!(Tr.isNil a0)))
((gd ((!(Tr.isNil a0)))
((gd ((!(Tr.isNil a0)))
(k ((Tr.isNil ((Tr.l a0))))))))))
/-! (*loop.example/g03403/impl.part).table$1 -/
def impl_part_table_1 {β : Type} (N : Nat) (a0 : Int) (c0 : Tr) (k : Bool → Option β) : Option β :=
(gd ((!(Tr.isNil c0)))
((gd ((!(Tr.isNil c0)))
((gd ((!(Tr.isNil c0)))
(k (((Tr.a c0) == 49))))))))
/-! loop.example/g03403/impl.variable$1 -/
def impl_variable_1 {β : Type} (N : Nat) (a0 : Int) (c0 : Int) (k : Bool → Option β) : Option β :=
(gd ((decide (0 ≤ c0)))
(k (((bits .and .i64 (shrI .i64 a0 c0) 1) == 1))))
/-! loop.example/g03403/impl.spread -/
def impl_spread {β : Type} (N : Nat) (a0 : Int) (a1 : Int) (a2 : Int) (k : Int → Option β) : Option β :=
(gd ((decide (0 ≤ a1)))
((gd ((decide (0 ≤ a1)))
(k ((bits .or .i64 (bits .or .i64 (shlI .i64 (w64 (a0 - (bits .and .i64 a0 (w64 ((shlI .i64 1 a1) - 1))))) 1) (shlI .i64 a2 a1)) (bits .and .i64 a0 (w64 ((shlI .i64 1 a1) - 1)))))))))
/-! (loop.example/g03403/impl.Table).at -/
def impl_Table_at {β : Type} (N : Nat) (a0 : Int) (a1 : Int) (a2 : Int) (k : Int → Option β) : Option β :=
(gd ((decide (0 ≤ a2)))
(k ((bits .and .i64 (shrI .i64 a1 a2) 1))))
/-! (loop.example/g03403/impl.Table).restrict$1 -/
def impl_Table_restrict_1 {β : Type} (N : Nat) (a0 : Int) (c0 : Int) (c1 : Int) (c2 : Int) (c3 : Int) (k : Bool → Option β) : Option β :=
impl_spread N a0 c2 c3 fun r2 =>
impl_Table_at N c0 c1 r2 fun r3 =>
k ((r3 == 1))
/-! loop.example/g03403/impl.makeTable -/
def impl_makeTable_l0b {β : Type} (N : Nat) (a1 : (Int → (Bool → Option β) → Option β)) (v0 : Int) (v1 : Int) (v2 : Int) (v3 : Int) (v4 : Int) (v5 : Int) (rec_ : Int → Int → Int → Int → Int → Int → Option β) (k0 : Int → Int → Int → Int → Option β) : Option β :=
(cond ((decide (v1 < v0)))
(a1 v1 fun r4 =>
(cond r4
((gd ((decide (0 ≤ v1)))
(rec_ v0 ((w64 (v1 + 1))) v2 v3 v4 ((bits .or .i64 v5 (shlI .i64 1 v1))))))
(rec_ v0 ((w64 (v1 + 1))) v2 v3 v4 v5)))
(k0 v2 v3 v4 v5))
def impl_makeTable_l0 {β : Type} (N : Nat) (a1 : (Int → (Bool → Option β) → Option β)) : Nat → Int → Int → Int → Int → Int → Int → (Int → Int → Int → Int → Option β) → Option β
  | 0, _, _, _, _, _, _, _ => none
  | F + 1, v0, v1, v2, v3, v4, v5, k0 => impl_makeTable_l0b N a1 v0 v1 v2 v3 v4 v5 (fun v0 v1 v2 v3 v4 v5 => impl_makeTable_l0 N a1 F v0 v1 v2 v3 v4 v5 k0) k0
def impl_makeTable {β : Type} (N : Nat) (a0 : Int) (a1 : (Int → (Bool → Option β) → Option β)) (k : Int → Int → Option β) : Option β :=
(gd ((decide (0 ≤ a0)))
(impl_makeTable_l0 N a1 N ((shlI .i64 1 a0)) 0 0 0 a0 0 (fun e5_0 e5_1 e5_2 e5_3 =>
k e5_2 e5_3)))
/-! loop.example/g03403/impl.variable -/
def impl_variable {β : Type} (N : Nat) (a0 : Int) (a1 : Int) (k : Int → Int → Option β) : Option β :=
impl_makeTable N a0 (fun x0 k => impl_variable_1 N x0 a1 k) fun r4 r5 =>
k r4 r5
/-! loop.example/g03403/impl.VariableTable -/
def impl_VariableTable {β : Type} (N : Nat) (a0 : Int) (a1 : Int) (k : Int → Int → Bool → Option β) : Option β :=
impl_isBits N a0 fun r5 =>
(cond (!r5)
(k 0 0 false)
((cond ((decide (a1 < 0)))
(k 0 0 false)
((cond ((decide (a1 ≥ a0)))
(k 0 0 false)
(impl_variable N a0 a1 fun r6 r7 =>
k r6 r7 true))))))
/-! (loop.example/g03403/impl.Table).size -/
def impl_Table_size {β : Type} (N : Nat) (a0 : Int) (a1 : Int) (k : Int → Option β) : Option β :=
(gd ((decide (0 ≤ a0)))
(k ((shlI .i64 1 a0))))
/-! (loop.example/g03403/impl.Table).not -/
def impl_Table_not {β : Type} (N : Nat) (a0 : Int) (a1 : Int) (k : Int → Int → Option β) : Option β :=
impl_Table_size N a0 a1 fun r4 =>
(gd ((decide (0 ≤ r4)))
(k a0 ((bits .xor .i64 a1 (w64 ((shlI .i64 1 r4) - 1))))))
/-! (*loop.example/g03403/impl.part).table -/
def impl_part_table_b {β : Type} (N : Nat) (self : Tr → Int → (Int → Int → Bool → Option β) → Option β) (a0 : Tr) (a1 : Int) (k : Int → Int → Bool → Option β) : Option β :=
impl_part_isLeaf N a0 fun r5 =>
(cond r5
((gd ((!(Tr.isNil a0)))
((gd ((!(Tr.isNil a0)))
((gd ((!(Tr.isNil a0)))
(impl_isLetter N ((Tr.a a0)) fun r6 =>
(cond r6
((gd ((!(Tr.isNil a0)))
((gd ((!(Tr.isNil a0)))
((gd ((!(Tr.isNil a0)))
(impl_VariableTable N a1 ((w64 ((w8 ((Tr.a a0) - 97))))) fun r7 r8 r9 =>
k r7 r8 r9)))))))
(impl_makeTable N a1 (fun x0 k => impl_part_table_1 N x0 a0 k) fun r10 r11 =>
k r10 r11 true)))))))))
((gd ((!(Tr.isNil a0)))
((gd ((!(Tr.isNil a0)))
((gd ((!(Tr.isNil a0)))
(self ((Tr.l a0)) a1 fun r12 r13 r14 =>
(cond (!r14)
(k 0 0 false)
((gd ((!(Tr.isNil a0)))
((gd ((!(Tr.isNil a0)))
((gd ((!(Tr.isNil a0)))
((cond (((Tr.a a0) == 33))
(impl_Table_not N r12 r13 fun r15 r16 =>
k r15 r16 true)
((gd ((!(Tr.isNil a0)))
((gd ((!(Tr.isNil a0)))
((gd ((!(Tr.isNil a0)))
(self ((Tr.r a0)) a1 fun r17 r18 r19 =>
(cond (!r19)
(k 0 0 false)
((gd ((!(Tr.isNil a0)))
((gd ((!(Tr.isNil a0)))
((gd ((!(Tr.isNil a0)))
((cond (((Tr.a a0) == 38))
(k r12 ((bits .and .i64 r13 r18)) true)
((cond (((Tr.a a0) == 124))
(k r12 ((bits .or .i64 r13 r18)) true)
(k r12 ((bits .xor .i64 r13 r18)) true))))))))))))))))))))))))))))))))))))
def impl_part_table_f {β : Type} (N : Nat) : Nat → Tr → Int → (Int → Int → Bool → Option β) → Option β
  | 0, _, _, _ => none
  | F + 1, a0, a1, k => impl_part_table_b N (impl_part_table_f N F) a0 a1 k
def impl_part_table {β : Type} (N : Nat) (a0 : Tr) (a1 : Int) (k : Int → Int → Bool → Option β) : Option β := impl_part_table_f N N a0 a1 k
/-! loop.example/g03403/impl.TableOfFormula -/
def impl_TableOfFormula {β : Type} (N : Nat) (a0 : ByteArray) (a1 : Int) (k : Int → Int → Bool → Option β) : Option β :=
impl_readFormula N a0 fun r5 r6 =>
(cond (!r6)
(k 0 0 false)
(impl_isBits N a1 fun r7 =>
(cond (!r7)
(k 0 0 false)
(impl_part_table N r5 a1 fun r8 r9 r10 =>
k r8 r9 r10))))
/-! loop.example/g03403/spec.l5End -/
def spec_l5End_b {β : Type} (N : Nat) (self : ByteArray → Int → (Int → Option β) → Option β) (a0 : ByteArray) (a1 : Int) (k : Int → Option β) : Option β :=
(cond ((decide (a1 ≥ (a0.size : Int))))
(k (-1))
((gd ((decide (0 ≤ a1)))
((gd ((decide (a1 < (a0.size : Int))))
((cond (((bt a0 a1) == 97))
((cond (((bt a0 a1) == 97))
(k ((w64 (a1 + 1))))
((cond (((bt a0 a1) == 33))
(self a0 ((w64 (a1 + 1))) fun r3 =>
k r3)
((cond (((bt a0 a1) == 38))
((cond (((bt a0 a1) == 38))
(self a0 ((w64 (a1 + 1))) fun r4 =>
(cond ((decide (r4 < 0)))
(k (-1))
(self a0 r4 fun r5 =>
k r5)))
(k (-1))))
((cond (((bt a0 a1) == 124))
((cond (((bt a0 a1) == 124))
(self a0 ((w64 (a1 + 1))) fun r6 =>
(cond ((decide (r6 < 0)))
(k (-1))
(self a0 r6 fun r7 =>
k r7)))
(k (-1))))
((cond (((bt a0 a1) == 94))
(self a0 ((w64 (a1 + 1))) fun r8 =>
(cond ((decide (r8 < 0)))
(k (-1))
(self a0 r8 fun r9 =>
k r9)))
(k (-1))))))))))))
((cond (((bt a0 a1) == 98))
((cond (((bt a0 a1) == 98))
(k ((w64 (a1 + 1))))
((cond (((bt a0 a1) == 33))
(self a0 ((w64 (a1 + 1))) fun r10 =>
k r10)
((cond (((bt a0 a1) == 38))
((cond (((bt a0 a1) == 38))
(self a0 ((w64 (a1 + 1))) fun r11 =>
(cond ((decide (r11 < 0)))
(k (-1))
(self a0 r11 fun r12 =>
k r12)))
(k (-1))))
((cond (((bt a0 a1) == 124))
((cond (((bt a0 a1) == 124))
(self a0 ((w64 (a1 + 1))) fun r13 =>
(cond ((decide (r13 < 0)))
(k (-1))
(self a0 r13 fun r14 =>
k r14)))
(k (-1))))
((cond (((bt a0 a1) == 94))
(self a0 ((w64 (a1 + 1))) fun r15 =>
(cond ((decide (r15 < 0)))
(k (-1))
(self a0 r15 fun r16 =>
k r16)))
(k (-1))))))))))))
((cond (((bt a0 a1) == 99))
((cond (((bt a0 a1) == 99))
(k ((w64 (a1 + 1))))
((cond (((bt a0 a1) == 33))
(self a0 ((w64 (a1 + 1))) fun r17 =>
k r17)
((cond (((bt a0 a1) == 38))
((cond (((bt a0 a1) == 38))
(self a0 ((w64 (a1 + 1))) fun r18 =>
(cond ((decide (r18 < 0)))
(k (-1))
(self a0 r18 fun r19 =>
k r19)))
(k (-1))))
((cond (((bt a0 a1) == 124))
((cond (((bt a0 a1) == 124))
(self a0 ((w64 (a1 + 1))) fun r20 =>
(cond ((decide (r20 < 0)))
(k (-1))
(self a0 r20 fun r21 =>
k r21)))
(k (-1))))
((cond (((bt a0 a1) == 94))
(self a0 ((w64 (a1 + 1))) fun r22 =>
(cond ((decide (r22 < 0)))
(k (-1))
(self a0 r22 fun r23 =>
k r23)))
(k (-1))))))))))))
((cond (((bt a0 a1) == 100))
((cond (((bt a0 a1) == 100))
(k ((w64 (a1 + 1))))
((cond (((bt a0 a1) == 33))
(self a0 ((w64 (a1 + 1))) fun r24 =>
k r24)
((cond (((bt a0 a1) == 38))
((cond (((bt a0 a1) == 38))
(self a0 ((w64 (a1 + 1))) fun r25 =>
(cond ((decide (r25 < 0)))
(k (-1))
(self a0 r25 fun r26 =>
k r26)))
(k (-1))))
((cond (((bt a0 a1) == 124))
((cond (((bt a0 a1) == 124))
(self a0 ((w64 (a1 + 1))) fun r27 =>
(cond ((decide (r27 < 0)))
(k (-1))
(self a0 r27 fun r28 =>
k r28)))
(k (-1))))
((cond (((bt a0 a1) == 94))
(self a0 ((w64 (a1 + 1))) fun r29 =>
(cond ((decide (r29 < 0)))
(k (-1))
(self a0 r29 fun r30 =>
k r30)))
(k (-1))))))))))))
((cond (((bt a0 a1) == 101))
((cond (((bt a0 a1) == 101))
(k ((w64 (a1 + 1))))
((cond (((bt a0 a1) == 33))
(self a0 ((w64 (a1 + 1))) fun r31 =>
k r31)
((cond (((bt a0 a1) == 38))
((cond (((bt a0 a1) == 38))
(self a0 ((w64 (a1 + 1))) fun r32 =>
(cond ((decide (r32 < 0)))
(k (-1))
(self a0 r32 fun r33 =>
k r33)))
(k (-1))))
((cond (((bt a0 a1) == 124))
((cond (((bt a0 a1) == 124))
(self a0 ((w64 (a1 + 1))) fun r34 =>
(cond ((decide (r34 < 0)))
(k (-1))
(self a0 r34 fun r35 =>
k r35)))
(k (-1))))
((cond (((bt a0 a1) == 94))
(self a0 ((w64 (a1 + 1))) fun r36 =>
(cond ((decide (r36 < 0)))
(k (-1))
(self a0 r36 fun r37 =>
k r37)))
(k (-1))))))))))))
((cond (((bt a0 a1) == 48))
((cond (((bt a0 a1) == 48))
(k ((w64 (a1 + 1))))
((cond (((bt a0 a1) == 33))
(self a0 ((w64 (a1 + 1))) fun r38 =>
k r38)
((cond (((bt a0 a1) == 38))
((cond (((bt a0 a1) == 38))
(self a0 ((w64 (a1 + 1))) fun r39 =>
(cond ((decide (r39 < 0)))
(k (-1))
(self a0 r39 fun r40 =>
k r40)))
(k (-1))))
((cond (((bt a0 a1) == 124))
((cond (((bt a0 a1) == 124))
(self a0 ((w64 (a1 + 1))) fun r41 =>
(cond ((decide (r41 < 0)))
(k (-1))
(self a0 r41 fun r42 =>
k r42)))
(k (-1))))
((cond (((bt a0 a1) == 94))
(self a0 ((w64 (a1 + 1))) fun r43 =>
(cond ((decide (r43 < 0)))
(k (-1))
(self a0 r43 fun r44 =>
k r44)))
(k (-1))))))))))))
((cond (((bt a0 a1) == 49))
(k ((w64 (a1 + 1))))
((cond (((bt a0 a1) == 33))
(self a0 ((w64 (a1 + 1))) fun r45 =>
k r45)
((cond (((bt a0 a1) == 38))
((cond (((bt a0 a1) == 38))
(self a0 ((w64 (a1 + 1))) fun r46 =>
(cond ((decide (r46 < 0)))
(k (-1))
(self a0 r46 fun r47 =>
k r47)))
(k (-1))))
((cond (((bt a0 a1) == 124))
((cond (((bt a0 a1) == 124))
(self a0 ((w64 (a1 + 1))) fun r48 =>
(cond ((decide (r48 < 0)))
(k (-1))
(self a0 r48 fun r49 =>
k r49)))
(k (-1))))
((cond (((bt a0 a1) == 94))
(self a0 ((w64 (a1 + 1))) fun r50 =>
(cond ((decide (r50 < 0)))
(k (-1))
(self a0 r50 fun r51 =>
k r51)))
(k (-1)))))))))))))))))))))))))))))
def spec_l5End_f {β : Type} (N : Nat) : Nat → ByteArray → Int → (Int → Option β) → Option β
  | 0, _, _, _ => none
  | F + 1, a0, a1, k => spec_l5End_b N (spec_l5End_f N F) a0 a1 k
def spec_l5End {β : Type} (N : Nat) (a0 : ByteArray) (a1 : Int) (k : Int → Option β) : Option β := spec_l5End_f N N a0 a1 k
/-! loop.example/g03403/spec.IsFormula -/
def spec_IsFormula {β : Type} (N : Nat) (a0 : ByteArray) (k : Bool → Option β) : Option β :=
(cond ((decide ((a0.size : Int) ≤ 60)))
((cond ((decide ((a0.size : Int) > 0)))
(spec_l5End N a0 0 fun r2 =>
k ((r2 == (a0.size : Int))))
(k false)))
(k false))
/-! loop.example/g03403/spec.l1In -/
def spec_l1In {β : Type} (N : Nat) (a0 : Int) (a1 : Int) (a2 : Int) (k : Bool → Option β) : Option β :=
(cond ((decide (a0 ≥ a1)))
(k ((decide (a0 ≤ a2))))
(k false))
/-! loop.example/g03403/spec.l5Value -/
def spec_l5Value_b {β : Type} (N : Nat) (self : ByteArray → Int → Int → (Bool → Option β) → Option β) (a0 : ByteArray) (a1 : Int) (a2 : Int) (k : Bool → Option β) : Option β :=
(gd ((decide (0 ≤ a1)))
((gd ((decide (a1 < (a0.size : Int))))
((cond (((bt a0 a1) == 48))
(k false)
((cond (((bt a0 a1) == 49))
(k true)
((cond (((bt a0 a1) == 33))
(self a0 ((w64 (a1 + 1))) a2 fun r4 =>
k (!r4))
((cond (((bt a0 a1) == 38))
(self a0 ((w64 (a1 + 1))) a2 fun r5 =>
(cond r5
(spec_l5End N a0 ((w64 (a1 + 1))) fun r6 =>
self a0 r6 a2 fun r7 =>
k r7)
(k false)))
((cond (((bt a0 a1) == 124))
(self a0 ((w64 (a1 + 1))) a2 fun r8 =>
(cond r8
(k true)
(spec_l5End N a0 ((w64 (a1 + 1))) fun r9 =>
self a0 r9 a2 fun r10 =>
k r10)))
((cond (((bt a0 a1) == 94))
(self a0 ((w64 (a1 + 1))) a2 fun r11 =>
spec_l5End N a0 ((w64 (a1 + 1))) fun r12 =>
self a0 r12 a2 fun r13 =>
k ((!(r11 == r13))))
((gd ((decide (0 ≤ a1)))
((gd ((decide (a1 < (a0.size : Int))))
((gd ((decide (0 ≤ (w8 ((bt a0 a1) - 97)))))
(k (((bits .and .i64 (shrI .i64 a2 (w8 ((bt a0 a1) - 97))) 1) == 1))))))))))))))))))))))))
def spec_l5Value_f {β : Type} (N : Nat) : Nat → ByteArray → Int → Int → (Bool → Option β) → Option β
  | 0, _, _, _, _ => none
  | F + 1, a0, a1, a2, k => spec_l5Value_b N (spec_l5Value_f N F) a0 a1 a2 k
def spec_l5Value {β : Type} (N : Nat) (a0 : ByteArray) (a1 : Int) (a2 : Int) (k : Bool → Option β) : Option β := spec_l5Value_f N N a0 a1 a2 k
/-! loop.example/g03403/spec.TableOfFormula -/
def spec_TableOfFormula_l0b {β : Type} (N : Nat)  (v0 : ByteArray) (v1 : Int) (v2 : Int) (v3 : Int) (v4 : Int) (rec_ : ByteArray → Int → Int → Int → Int → Option β) (k0 : Bool → Int → Int → Option β) (k1 : ByteArray → Int → Int → Int → Option β) : Option β :=
(cond ((decide (v2 < (v0.size : Int))))
((gd ((decide (0 ≤ v2)))
((gd ((decide (v2 < (v0.size : Int))))
((cond ((decide ((bt v0 v2) ≥ 97)))
((gd ((decide (0 ≤ v2)))
((gd ((decide (v2 < (v0.size : Int))))
((cond ((decide ((bt v0 v2) ≤ 101)))
((gd ((decide (0 ≤ v2)))
((gd ((decide (v2 < (v0.size : Int))))
((cond ((decide ((w64 ((w8 ((bt v0 v2) - 97)))) ≥ v1)))
(k0 false 0 0)
(rec_ v0 v1 ((w64 (v2 + 1))) v3 v4)))))))
(rec_ v0 v1 ((w64 (v2 + 1))) v3 v4)))))))
(rec_ v0 v1 ((w64 (v2 + 1))) v3 v4)))))))
(k1 v0 v1 v3 v4))
def spec_TableOfFormula_l0 {β : Type} (N : Nat)  : Nat → ByteArray → Int → Int → Int → Int → (Bool → Int → Int → Option β) → (ByteArray → Int → Int → Int → Option β) → Option β
  | 0, _, _, _, _, _, _, _ => none
  | F + 1, v0, v1, v2, v3, v4, k0, k1 => spec_TableOfFormula_l0b N  v0 v1 v2 v3 v4 (fun v0 v1 v2 v3 v4 => spec_TableOfFormula_l0 N  F v0 v1 v2 v3 v4 k0 k1) k0 k1
def spec_TableOfFormula_l2b {β : Type} (N : Nat)  (v0 : ByteArray) (v1 : Int) (v2 : Int) (v3 : Int) (v4 : Int) (v5 : Int) (rec_ : ByteArray → Int → Int → Int → Int → Int → Option β) (k0 : Int → Int → Int → Int → Option β) : Option β :=
(gd ((decide (0 ≤ v1)))
((cond ((decide (v3 < (shlI .i64 1 v1))))
(spec_l5Value N v0 0 v3 fun r9 =>
(cond r9
((gd ((decide (0 ≤ v3)))
(rec_ v0 v1 ((bits .or .i64 v2 (shlI .i64 1 v3))) ((w64 (v3 + 1))) v4 v5)))
(rec_ v0 v1 v2 ((w64 (v3 + 1))) v4 v5)))
(k0 v1 v2 v4 v5))))
def spec_TableOfFormula_l2 {β : Type} (N : Nat)  : Nat → ByteArray → Int → Int → Int → Int → Int → (Int → Int → Int → Int → Option β) → Option β
  | 0, _, _, _, _, _, _, _ => none
  | F + 1, v0, v1, v2, v3, v4, v5, k0 => spec_TableOfFormula_l2b N  v0 v1 v2 v3 v4 v5 (fun v0 v1 v2 v3 v4 v5 => spec_TableOfFormula_l2 N  F v0 v1 v2 v3 v4 v5 k0) k0
def spec_TableOfFormula {β : Type} (N : Nat) (a0 : ByteArray) (a1 : Int) (k : Int → Int → Bool → Option β) : Option β :=
spec_IsFormula N a0 fun r5 =>
(cond (!r5)
(k 0 0 false)
(spec_l1In N a1 0 5 fun r6 =>
(cond (!r6)
(k 0 0 false)
(spec_TableOfFormula_l0 N  N a0 a1 0 0 0 (fun e7_0 e7_1 e7_2 =>
k e7_1 e7_2 e7_0) (fun e8_0 e8_1 e8_2 e8_3 =>
spec_TableOfFormula_l2 N  N e8_0 e8_1 0 0 e8_2 e8_3 (fun e10_0 e10_1 e10_2 e10_3 =>
k e10_0 e10_1 true))))))
/-! loop.example/g03403/impl.IsFormula -/
def impl_IsFormula {β : Type} (N : Nat) (a0 : ByteArray) (k : Bool → Option β) : Option β :=
impl_readFormula N a0 fun r2 r3 =>
k r3
/-! loop.example/g03403/impl.other -/
def impl_other {β : Type} (N : Nat) (a0 : Int) (k : Int → Option β) : Option β :=
(cond ((a0 == 38))
(k 124)
((cond ((a0 == 124))
(k 38)
((cond ((a0 == 48))
(k 49)
((cond ((a0 == 49))
(k 48)
(k a0))))))))
/-! (*loop.example/g03403/impl.part).push -/
def impl_part_push_b {β : Type} (N : Nat) (self : Tr → Bool → (Tr → Option β) → Option β) (a0 : Tr) (a1 : Bool) (k : Tr → Option β) : Option β :=
(gd ((!(Tr.isNil a0)))
((gd ((!(Tr.isNil a0)))
((gd ((!(Tr.isNil a0)))
((cond (((Tr.a a0) == 33))
((gd ((!(Tr.isNil a0)))
((gd ((!(Tr.isNil a0)))
((gd ((!(Tr.isNil a0)))
(self ((Tr.l a0)) (!a1) fun r3 =>
k r3)))))))
((gd ((!(Tr.isNil a0)))
((gd ((!(Tr.isNil a0)))
((gd ((!(Tr.isNil a0)))
(impl_isLetter N ((Tr.a a0)) fun r4 =>
(cond r4
((cond a1
(k ((Tr.node 33 0 a0 Tr.nil)))
(impl_part_isLeaf N a0 fun r5 =>
(cond r5
((cond a1
((gd ((!(Tr.isNil a0)))
((gd ((!(Tr.isNil a0)))
((gd ((!(Tr.isNil a0)))
(impl_other N ((Tr.a a0)) fun r6 =>
k ((Tr.node r6 0 Tr.nil Tr.nil)))))))))
(k a0)))
((gd ((!(Tr.isNil a0)))
((gd ((!(Tr.isNil a0)))
((gd ((!(Tr.isNil a0)))
((cond (((Tr.a a0) == 94))
((gd ((!(Tr.isNil a0)))
((gd ((!(Tr.isNil a0)))
((gd ((!(Tr.isNil a0)))
((gd ((!(Tr.isNil a0)))
((gd ((!(Tr.isNil a0)))
((gd ((!(Tr.isNil a0)))
(self ((Tr.l a0)) a1 fun r7 =>
self ((Tr.r a0)) false fun r8 =>
k ((Tr.node 94 0 r7 r8)))))))))))))))
((gd ((!(Tr.isNil a0)))
((gd ((!(Tr.isNil a0)))
((gd ((!(Tr.isNil a0)))
((cond a1
(impl_other N ((Tr.a a0)) fun r9 =>
(gd ((!(Tr.isNil a0)))
((gd ((!(Tr.isNil a0)))
((gd ((!(Tr.isNil a0)))
((gd ((!(Tr.isNil a0)))
((gd ((!(Tr.isNil a0)))
((gd ((!(Tr.isNil a0)))
(self ((Tr.l a0)) a1 fun r10 =>
self ((Tr.r a0)) a1 fun r11 =>
k ((Tr.node r9 0 r10 r11)))))))))))))))
((gd ((!(Tr.isNil a0)))
((gd ((!(Tr.isNil a0)))
((gd ((!(Tr.isNil a0)))
((gd ((!(Tr.isNil a0)))
((gd ((!(Tr.isNil a0)))
((gd ((!(Tr.isNil a0)))
(self ((Tr.l a0)) a1 fun r12 =>
self ((Tr.r a0)) a1 fun r13 =>
k ((Tr.node ((Tr.a a0)) 0 r12 r13)))))))))))))))))))))))))))))))))))
(impl_part_isLeaf N a0 fun r14 =>
(cond r14
((cond a1
((gd ((!(Tr.isNil a0)))
((gd ((!(Tr.isNil a0)))
((gd ((!(Tr.isNil a0)))
(impl_other N ((Tr.a a0)) fun r15 =>
k ((Tr.node r15 0 Tr.nil Tr.nil)))))))))
(k a0)))
((gd ((!(Tr.isNil a0)))
((gd ((!(Tr.isNil a0)))
((gd ((!(Tr.isNil a0)))
((cond (((Tr.a a0) == 94))
((gd ((!(Tr.isNil a0)))
((gd ((!(Tr.isNil a0)))
((gd ((!(Tr.isNil a0)))
((gd ((!(Tr.isNil a0)))
((gd ((!(Tr.isNil a0)))
((gd ((!(Tr.isNil a0)))
(self ((Tr.l a0)) a1 fun r16 =>
self ((Tr.r a0)) false fun r17 =>
k ((Tr.node 94 0 r16 r17)))))))))))))))
((gd ((!(Tr.isNil a0)))
((gd ((!(Tr.isNil a0)))
((gd ((!(Tr.isNil a0)))
((cond a1
(impl_other N ((Tr.a a0)) fun r18 =>
(gd ((!(Tr.isNil a0)))
((gd ((!(Tr.isNil a0)))
((gd ((!(Tr.isNil a0)))
((gd ((!(Tr.isNil a0)))
((gd ((!(Tr.isNil a0)))
((gd ((!(Tr.isNil a0)))
(self ((Tr.l a0)) a1 fun r19 =>
self ((Tr.r a0)) a1 fun r20 =>
k ((Tr.node r18 0 r19 r20)))))))))))))))
((gd ((!(Tr.isNil a0)))
((gd ((!(Tr.isNil a0)))
((gd ((!(Tr.isNil a0)))
((gd ((!(Tr.isNil a0)))
((gd ((!(Tr.isNil a0)))
((gd ((!(Tr.isNil a0)))
(self ((Tr.l a0)) a1 fun r21 =>
self ((Tr.r a0)) a1 fun r22 =>
k ((Tr.node ((Tr.a a0)) 0 r21 r22))))))))))))))))))))))))))))))))))))))))))))))))
def impl_part_push_f {β : Type} (N : Nat) : Nat → Tr → Bool → (Tr → Option β) → Option β
  | 0, _, _, _ => none
  | F + 1, a0, a1, k => impl_part_push_b N (impl_part_push_f N F) a0 a1 k
def impl_part_push {β : Type} (N : Nat) (a0 : Tr) (a1 : Bool) (k : Tr → Option β) : Option β := impl_part_push_f N N a0 a1 k
/-! (*loop.example/g03403/impl.part).text -/
def impl_part_text_b {β : Type} (N : Nat) (self : Tr → (ByteArray → Option β) → Option β) (a0 : Tr) (k : ByteArray → Option β) : Option β :=
(gd ((!(Tr.isNil a0)))
((gd ((!(Tr.isNil a0)))
((gd ((!(Tr.isNil a0)))
((gd ((!(Tr.isNil a0)))
((gd ((!(Tr.isNil a0)))
((gd ((!(Tr.isNil a0)))
((cond ((!(Tr.isNil ((Tr.l a0)))))
((gd ((!(Tr.isNil a0)))
((gd ((!(Tr.isNil a0)))
((gd ((!(Tr.isNil a0)))
(self ((Tr.l a0)) fun r2 =>
(gd ((decide (((strOf ((([] : List Int) ++ [(Tr.a a0)])))).size + r2.size ≤ 9223372036854775807)))
((gd ((!(Tr.isNil a0)))
((gd ((!(Tr.isNil a0)))
((gd ((!(Tr.isNil a0)))
((cond ((!(Tr.isNil ((Tr.r a0)))))
((gd ((!(Tr.isNil a0)))
((gd ((!(Tr.isNil a0)))
((gd ((!(Tr.isNil a0)))
(self ((Tr.r a0)) fun r3 =>
(gd ((decide ((((strOf ((([] : List Int) ++ [(Tr.a a0)]))) ++ r2)).size + r3.size ≤ 9223372036854775807)))
(k ((((strOf ((([] : List Int) ++ [(Tr.a a0)]))) ++ r2) ++ r3)))))))))))
(k (((strOf ((([] : List Int) ++ [(Tr.a a0)]))) ++ r2)))))))))))))))))))
((gd ((!(Tr.isNil a0)))
((gd ((!(Tr.isNil a0)))
((gd ((!(Tr.isNil a0)))
((cond ((!(Tr.isNil ((Tr.r a0)))))
((gd ((!(Tr.isNil a0)))
((gd ((!(Tr.isNil a0)))
((gd ((!(Tr.isNil a0)))
(self ((Tr.r a0)) fun r4 =>
(gd ((decide (((strOf ((([] : List Int) ++ [(Tr.a a0)])))).size + r4.size ≤ 9223372036854775807)))
(k (((strOf ((([] : List Int) ++ [(Tr.a a0)]))) ++ r4)))))))))))
(k ((strOf ((([] : List Int) ++ [(Tr.a a0)]))))))))))))))))))))))))))
def impl_part_text_f {β : Type} (N : Nat) : Nat → Tr → (ByteArray → Option β) → Option β
  | 0, _, _ => none
  | F + 1, a0, k => impl_part_text_b N (impl_part_text_f N F) a0 k
def impl_part_text {β : Type} (N : Nat) (a0 : Tr) (k : ByteArray → Option β) : Option β := impl_part_text_f N N a0 k
/-! loop.example/g03403/impl.PushNegations -/
def impl_PushNegations {β : Type} (N : Nat) (a0 : ByteArray) (k : ByteArray → Bool → Option β) : Option β :=
impl_readFormula N a0 fun r3 r4 =>
(cond (!r4)
(k ByteArray.empty false)
(impl_part_push N r3 false fun r5 =>
impl_part_text N r5 fun r6 =>
(cond ((decide ((r6.size : Int) > 60)))
(k ByteArray.empty false)
(k r6 true))))
/-! (*loop.example/g03403/impl.part).leaves -/
def impl_part_leaves_b {β : Type} (N : Nat) (self : Tr → (Int → Option β) → Option β) (a0 : Tr) (k : Int → Option β) : Option β :=
impl_part_isLeaf N a0 fun r2 =>
(cond r2
(k 1)
((gd ((!(Tr.isNil a0)))
((gd ((!(Tr.isNil a0)))
((gd ((!(Tr.isNil a0)))
((cond ((Tr.isNil ((Tr.r a0))))
((gd ((!(Tr.isNil a0)))
((gd ((!(Tr.isNil a0)))
((gd ((!(Tr.isNil a0)))
(self ((Tr.l a0)) fun r3 =>
k r3)))))))
((gd ((!(Tr.isNil a0)))
((gd ((!(Tr.isNil a0)))
((gd ((!(Tr.isNil a0)))
((gd ((!(Tr.isNil a0)))
((gd ((!(Tr.isNil a0)))
((gd ((!(Tr.isNil a0)))
(self ((Tr.l a0)) fun r4 =>
self ((Tr.r a0)) fun r5 =>
k ((w64 (r4 + r5)))))))))))))))))))))))))
def impl_part_leaves_f {β : Type} (N : Nat) : Nat → Tr → (Int → Option β) → Option β
  | 0, _, _ => none
  | F + 1, a0, k => impl_part_leaves_b N (impl_part_leaves_f N F) a0 k
def impl_part_leaves {β : Type} (N : Nat) (a0 : Tr) (k : Int → Option β) : Option β := impl_part_leaves_f N N a0 k
/-! loop.example/g03403/impl.LeavesOf -/
def impl_LeavesOf {β : Type} (N : Nat) (a0 : ByteArray) (k : Int → Option β) : Option β :=
impl_readFormula N a0 fun r2 r3 =>
(cond (!r3)
(k (-1))
(impl_part_leaves N r2 fun r4 =>
k r4))
/-! (*loop.example/g03403/impl.part).depth -/
def impl_part_depth_b {β : Type} (N : Nat) (self : Tr → (Int → Option β) → Option β) (a0 : Tr) (k : Int → Option β) : Option β :=
impl_part_isLeaf N a0 fun r2 =>
(cond r2
(k 0)
((gd ((!(Tr.isNil a0)))
((gd ((!(Tr.isNil a0)))
((gd ((!(Tr.isNil a0)))
((cond ((Tr.isNil ((Tr.r a0))))
((gd ((!(Tr.isNil a0)))
((gd ((!(Tr.isNil a0)))
((gd ((!(Tr.isNil a0)))
(self ((Tr.l a0)) fun r3 =>
k r3)))))))
((gd ((!(Tr.isNil a0)))
((gd ((!(Tr.isNil a0)))
((gd ((!(Tr.isNil a0)))
((gd ((!(Tr.isNil a0)))
((gd ((!(Tr.isNil a0)))
((gd ((!(Tr.isNil a0)))
(self ((Tr.l a0)) fun r4 =>
self ((Tr.r a0)) fun r5 =>
k ((w64 (1 + (mxI r4 r5))))))))))))))))))))))))))
def impl_part_depth_f {β : Type} (N : Nat) : Nat → Tr → (Int → Option β) → Option β
  | 0, _, _ => none
  | F + 1, a0, k => impl_part_depth_b N (impl_part_depth_f N F) a0 k
def impl_part_depth {β : Type} (N : Nat) (a0 : Tr) (k : Int → Option β) : Option β := impl_part_depth_f N N a0 k
/-! loop.example/g03403/impl.DepthOf -/
def impl_DepthOf {β : Type} (N : Nat) (a0 : ByteArray) (k : Int → Option β) : Option β :=
impl_readFormula N a0 fun r2 r3 =>
(cond (!r3)
(k (-1))
(impl_part_depth N r2 fun r4 =>
k r4))
/-! loop.example/g03403/spec.IsTable -/
def spec_IsTable {β : Type} (N : Nat) (a0 : Int) (a1 : Int) (k : Bool → Option β) : Option β :=
spec_l1In N a0 0 5 fun r3 =>
(cond r3
((gd ((decide (0 ≤ a0)))
((gd ((decide (0 ≤ (shlI .u64 1 a0))))
(spec_l1In N a1 0 ((w64 ((shlI .i64 1 (shlI .u64 1 a0)) - 1))) fun r4 =>
k r4)))))
(k false))
/-! loop.example/g03403/spec.l3Shift -/
def spec_l3Shift_l0b {β : Type} (N : Nat)  (v0 : Int) (v1 : Int) (v2 : Int) (v3 : Int) (v4 : Int) (v5 : Int) (v6 : Int) (rec_ : Int → Int → Int → Int → Int → Int → Int → Option β) (k0 : Int → Int → Int → Int → Int → Option β) : Option β :=
(gd ((decide (0 ≤ v3)))
((cond ((decide (v2 < (shlI .i64 1 v3))))
((gd ((decide (0 ≤ v2)))
((gd ((decide (0 ≤ (bits .xor .i64 v2 v0))))
(rec_ v0 ((bits .or .i64 v1 (shlI .i64 (bits .and .i64 (shrI .i64 v4 v2) 1) (bits .xor .i64 v2 v0)))) ((w64 (v2 + 1))) v3 v4 v5 v6)))))
(k0 v1 v3 v4 v5 v6))))
def spec_l3Shift_l0 {β : Type} (N : Nat)  : Nat → Int → Int → Int → Int → Int → Int → Int → (Int → Int → Int → Int → Int → Option β) → Option β
  | 0, _, _, _, _, _, _, _, _ => none
  | F + 1, v0, v1, v2, v3, v4, v5, v6, k0 => spec_l3Shift_l0b N  v0 v1 v2 v3 v4 v5 v6 (fun v0 v1 v2 v3 v4 v5 v6 => spec_l3Shift_l0 N  F v0 v1 v2 v3 v4 v5 v6 k0) k0
def spec_l3Shift {β : Type} (N : Nat) (a0 : Int) (a1 : Int) (a2 : Int) (k : Int → Int → Option β) : Option β :=
spec_l3Shift_l0 N  N a2 0 0 a0 a1 0 0 (fun e5_0 e5_1 e5_2 e5_3 e5_4 =>
k e5_1 e5_0)
/-! loop.example/g03403/spec.l2Full -/
def spec_l2Full {β : Type} (N : Nat) (a0 : Int) (k : Int → Option β) : Option β :=
(gd ((decide (0 ≤ a0)))
((gd ((decide (0 ≤ (shlI .u64 1 a0))))
(k ((w64 ((shlI .i64 1 (shlI .u64 1 a0)) - 1)))))))
/-! loop.example/g03403/spec.DualTable -/
def spec_DualTable {β : Type} (N : Nat) (a0 : Int) (a1 : Int) (k : Int → Int → Bool → Option β) : Option β :=
spec_IsTable N a0 a1 fun r5 =>
(cond (!r5)
(k 0 0 false)
((gd ((decide (0 ≤ a0)))
(spec_l3Shift N a0 a1 ((w64 ((shlI .i64 1 a0) - 1))) fun r6 r7 =>
spec_l2Full N a0 fun r8 =>
k a0 ((w64 (r8 - r7))) true))))
/-! loop.example/g03403/impl.IsMonotoneFormula -/
def impl_IsMonotoneFormula {β : Type} (N : Nat) (a0 : ByteArray) (k : Bool → Option β) : Option β :=
impl_IsFormula N a0 fun r2 =>
(cond r2
(strings_ContainsAny N a0 ((strOf [33, 94])) fun r3 =>
k (!r3))
(k false))
/-! loop.example/g03403/impl.IsTable -/
def impl_IsTable {β : Type} (N : Nat) (a0 : Int) (a1 : Int) (k : Bool → Option β) : Option β :=
impl_isBits N a0 fun r3 =>
(cond r3
((cond ((decide (a1 ≥ 0)))
(impl_Table_size N a0 a1 fun r4 =>
(gd ((decide (0 ≤ r4)))
(k (((shrI .i64 a1 r4) == 0)))))
(k false)))
(k false))
/-! (loop.example/g03403/impl.Table).restrict -/
def impl_Table_restrict {β : Type} (N : Nat) (a0 : Int) (a1 : Int) (a2 : Int) (a3 : Int) (k : Int → Int → Option β) : Option β :=
impl_makeTable N ((w64 (a0 - 1))) (fun x0 k => impl_Table_restrict_1 N x0 a0 a1 a2 a3 k) fun r6 r7 =>
k r6 r7
/-! (loop.example/g03403/impl.Table).isMonotone -/
def impl_Table_isMonotone_l0b {β : Type} (N : Nat)  (v0 : Int) (v1 : Int) (v2 : Int) (v3 : Int) (rec_ : Int → Int → Int → Int → Option β) (k0 : Bool → Option β) (k1 : Option β) : Option β :=
(cond ((decide (v1 < v0)))
(impl_Table_restrict N v2 v3 v1 0 fun r3 r4 =>
impl_Table_restrict N v2 v3 v1 1 fun r5 r6 =>
(cond (((bits .andNot .i64 r4 r6) != 0))
(k0 false)
(rec_ v0 ((w64 (v1 + 1))) v2 v3)))
(k1 ))
def impl_Table_isMonotone_l0 {β : Type} (N : Nat)  : Nat → Int → Int → Int → Int → (Bool → Option β) → (Option β) → Option β
  | 0, _, _, _, _, _, _ => none
  | F + 1, v0, v1, v2, v3, k0, k1 => impl_Table_isMonotone_l0b N  v0 v1 v2 v3 (fun v0 v1 v2 v3 => impl_Table_isMonotone_l0 N  F v0 v1 v2 v3 k0 k1) k0 k1
def impl_Table_isMonotone {β : Type} (N : Nat) (a0 : Int) (a1 : Int) (k : Bool → Option β) : Option β :=
impl_Table_isMonotone_l0 N  N a0 0 a0 a1 (fun e7_0 =>
k e7_0) (k true)
/-! loop.example/g03403/impl.IsMonotone -/
def impl_IsMonotone {β : Type} (N : Nat) (a0 : Int) (a1 : Int) (k : Bool → Option β) : Option β :=
impl_IsTable N a0 a1 fun r3 =>
(cond r3
(impl_Table_isMonotone N a0 a1 fun r4 =>
k r4)
(k false))
/-! loop.example/g03403/impl.IsReadOnce -/
def impl_IsReadOnce_l0b {β : Type} (N : Nat)  (v0 : ByteArray) (v1 : Int) (rec_ : ByteArray → Int → Option β) (k0 : Bool → Option β) (k1 : ByteArray → Option β) : Option β :=
(cond ((decide (v1 < 5)))
(strings_Count N v0 ((strOf ((([] : List Int) ++ [(w8 (97 + v1))])))) fun r2 =>
(cond ((decide (r2 > 1)))
(k0 false)
(rec_ v0 ((w8 (v1 + 1))))))
(k1 v0))
def impl_IsReadOnce_l0 {β : Type} (N : Nat)  : Nat → ByteArray → Int → (Bool → Option β) → (ByteArray → Option β) → Option β
  | 0, _, _, _, _ => none
  | F + 1, v0, v1, k0, k1 => impl_IsReadOnce_l0b N  v0 v1 (fun v0 v1 => impl_IsReadOnce_l0 N  F v0 v1 k0 k1) k0 k1
def impl_IsReadOnce {β : Type} (N : Nat) (a0 : ByteArray) (k : Bool → Option β) : Option β :=
impl_IsReadOnce_l0 N  N a0 0 (fun e3_0 =>
k e3_0) (fun e4_0 =>
impl_IsFormula N e4_0 fun r5 =>
k r5)
/-! (loop.example/g03403/impl.Table).depends -/
def impl_Table_depends {β : Type} (N : Nat) (a0 : Int) (a1 : Int) (a2 : Int) (k : Bool → Option β) : Option β :=
impl_Table_restrict N a0 a1 a2 0 fun r4 r5 =>
impl_Table_restrict N a0 a1 a2 1 fun r6 r7 =>
k ((!((r4 == r6) && (r5 == r7))))
/-! loop.example/g03403/impl.VariablesOf -/
def impl_VariablesOf_l0b {β : Type} (N : Nat)  (v0 : Int) (v1 : Int) (v2 : Int) (v3 : Int) (v4 : List Int) (rec_ : Int → Int → Int → Int → List Int → Option β) (k0 : List Int → Option β) : Option β :=
(cond ((decide (v1 < v0)))
(impl_Table_depends N v2 v3 v1 fun r4 =>
(cond r4
((gd ((decide ((v4.length + ((([] : List Int) ++ [v1])).length) * 8 ≤ 140737488355328)))
(rec_ v0 ((w64 (v1 + 1))) v2 v3 ((v4 ++ (([] : List Int) ++ [v1]))))))
(rec_ v0 ((w64 (v1 + 1))) v2 v3 v4)))
(k0 v4))
def impl_VariablesOf_l0 {β : Type} (N : Nat)  : Nat → Int → Int → Int → Int → List Int → (List Int → Option β) → Option β
  | 0, _, _, _, _, _, _ => none
  | F + 1, v0, v1, v2, v3, v4, k0 => impl_VariablesOf_l0b N  v0 v1 v2 v3 v4 (fun v0 v1 v2 v3 v4 => impl_VariablesOf_l0 N  F v0 v1 v2 v3 v4 k0) k0
def impl_VariablesOf {β : Type} (N : Nat) (a0 : Int) (a1 : Int) (k : List Int → Option β) : Option β :=
impl_IsTable N a0 a1 fun r3 =>
(cond (!r3)
(k (([] : List Int)))
(impl_VariablesOf_l0 N  N a0 0 a0 a1 (([] : List Int)) (fun e5_0 =>
k e5_0)))
/-! loop.example/g03403/spec.DrawPushNegations -/
def spec_DrawPushNegations {β : Type} (N : Nat) (a0 : List Int) (k : ByteArray → Option β) : Option β :=
spec_l1New_g0 N a0 (fun r2_0 r2_1 r2_2 =>
spec_l5Any_g0 N r2_0 r2_1 r2_2 (fun r3_0 r3_1 r3_2 r3_3 =>
k r3_0))
/-! loop.example/g03403/spec.l5Push -/
def spec_l5Push_b {β : Type} (N : Nat) (self : ByteArray → Int → Bool → (ByteArray → Option β) → Option β) (a0 : ByteArray) (a1 : Int) (a2 : Bool) (k : ByteArray → Option β) : Option β :=
(gd ((decide (0 ≤ a1)))
((gd ((decide (a1 < (a0.size : Int))))
((cond (((bt a0 a1) == 33))
(self a0 ((w64 (a1 + 1))) (!a2) fun r4 =>
k r4)
((cond (((bt a0 a1) == 38))
((cond a2
(self a0 ((w64 (a1 + 1))) true fun r5 =>
(gd ((decide (((strOf [124])).size + r5.size ≤ 9223372036854775807)))
(spec_l5End N a0 ((w64 (a1 + 1))) fun r6 =>
self a0 r6 true fun r7 =>
(gd ((decide ((((strOf [124]) ++ r5)).size + r7.size ≤ 9223372036854775807)))
(k ((((strOf [124]) ++ r5) ++ r7)))))))
(self a0 ((w64 (a1 + 1))) false fun r8 =>
(gd ((decide (((strOf [38])).size + r8.size ≤ 9223372036854775807)))
(spec_l5End N a0 ((w64 (a1 + 1))) fun r9 =>
self a0 r9 false fun r10 =>
(gd ((decide ((((strOf [38]) ++ r8)).size + r10.size ≤ 9223372036854775807)))
(k ((((strOf [38]) ++ r8) ++ r10)))))))))
((cond (((bt a0 a1) == 124))
((cond a2
(self a0 ((w64 (a1 + 1))) true fun r11 =>
(gd ((decide (((strOf [38])).size + r11.size ≤ 9223372036854775807)))
(spec_l5End N a0 ((w64 (a1 + 1))) fun r12 =>
self a0 r12 true fun r13 =>
(gd ((decide ((((strOf [38]) ++ r11)).size + r13.size ≤ 9223372036854775807)))
(k ((((strOf [38]) ++ r11) ++ r13)))))))
(self a0 ((w64 (a1 + 1))) false fun r14 =>
(gd ((decide (((strOf [124])).size + r14.size ≤ 9223372036854775807)))
(spec_l5End N a0 ((w64 (a1 + 1))) fun r15 =>
self a0 r15 false fun r16 =>
(gd ((decide ((((strOf [124]) ++ r14)).size + r16.size ≤ 9223372036854775807)))
(k ((((strOf [124]) ++ r14) ++ r16)))))))))
((cond (((bt a0 a1) == 94))
(self a0 ((w64 (a1 + 1))) a2 fun r17 =>
(gd ((decide (((strOf [94])).size + r17.size ≤ 9223372036854775807)))
(spec_l5End N a0 ((w64 (a1 + 1))) fun r18 =>
self a0 r18 false fun r19 =>
(gd ((decide ((((strOf [94]) ++ r17)).size + r19.size ≤ 9223372036854775807)))
(k ((((strOf [94]) ++ r17) ++ r19)))))))
((cond (((bt a0 a1) == 48))
((cond a2
(k ((strOf [49])))
(k ((strOf [48])))))
((cond (((bt a0 a1) == 49))
((cond a2
(k ((strOf [48])))
(k ((strOf [49])))))
((cond a2
((gd ((decide (0 ≤ (w64 (a1 + 1)))))
((gd ((decide ((w64 (a1 + 1)) ≤ (a0.size : Int))))
((gd ((decide (0 ≤ a1)))
((gd ((decide (a1 ≤ (w64 (a1 + 1)))))
((gd ((decide (((strOf [33])).size + ((a0.extract (Int.toNat a1) (Int.toNat (w64 (a1 + 1))))).size ≤ 9223372036854775807)))
(k (((strOf [33]) ++ (a0.extract (Int.toNat a1) (Int.toNat (w64 (a1 + 1)))))))))))))))))
((gd ((decide (0 ≤ (w64 (a1 + 1)))))
((gd ((decide ((w64 (a1 + 1)) ≤ (a0.size : Int))))
((gd ((decide (0 ≤ a1)))
((gd ((decide (a1 ≤ (w64 (a1 + 1)))))
(k ((a0.extract (Int.toNat a1) (Int.toNat (w64 (a1 + 1)))))))))))))))))))))))))))))))
def spec_l5Push_f {β : Type} (N : Nat) : Nat → ByteArray → Int → Bool → (ByteArray → Option β) → Option β
  | 0, _, _, _, _ => none
  | F + 1, a0, a1, a2, k => spec_l5Push_b N (spec_l5Push_f N F) a0 a1 a2 k
def spec_l5Push {β : Type} (N : Nat) (a0 : ByteArray) (a1 : Int) (a2 : Bool) (k : ByteArray → Option β) : Option β := spec_l5Push_f N N a0 a1 a2 k
/-! loop.example/g03403/spec.PushNegations -/
def spec_PushNegations {β : Type} (N : Nat) (a0 : ByteArray) (k : ByteArray → Bool → Option β) : Option β :=
spec_IsFormula N a0 fun r3 =>
(cond (!r3)
(k ByteArray.empty false)
(spec_l5Push N a0 0 false fun r4 =>
spec_IsFormula N r4 fun r5 =>
(cond (!r5)
(k ByteArray.empty false)
(k r4 true))))
/-! loop.example/g03403/spec.DrawDualFormula -/
def spec_DrawDualFormula {β : Type} (N : Nat) (a0 : List Int) (k : ByteArray → Option β) : Option β :=
spec_l1New_g0 N a0 (fun r2_0 r2_1 r2_2 =>
spec_l5Any_g0 N r2_0 r2_1 r2_2 (fun r3_0 r3_1 r3_2 r3_3 =>
k r3_0))
/-! loop.example/g03403/spec.DualFormula -/
def spec_DualFormula_l0b {β : Type} (N : Nat)  (v0 : ByteArray) (v1 : ByteArray) (v2 : Int) (rec_ : ByteArray → ByteArray → Int → Option β) (k0 : ByteArray → Bool → Option β) (k1 : ByteArray → ByteArray → Option β) : Option β :=
(cond ((decide (v2 < (v0.size : Int))))
(spec_IsFormula N v0 fun r3 =>
(cond r3
((gd ((decide (0 ≤ v2)))
((gd ((decide (v2 < (v0.size : Int))))
((cond (((bt v0 v2) == 38))
((gd ((decide (v1.size + ((strOf [124])).size ≤ 9223372036854775807)))
(rec_ v0 ((v1 ++ (strOf [124]))) ((w64 (v2 + 1))))))
((cond (((bt v0 v2) == 124))
((gd ((decide (v1.size + ((strOf [38])).size ≤ 9223372036854775807)))
(rec_ v0 ((v1 ++ (strOf [38]))) ((w64 (v2 + 1))))))
((cond (((bt v0 v2) == 48))
((gd ((decide (v1.size + ((strOf [49])).size ≤ 9223372036854775807)))
(rec_ v0 ((v1 ++ (strOf [49]))) ((w64 (v2 + 1))))))
((cond (((bt v0 v2) == 49))
((gd ((decide (v1.size + ((strOf [48])).size ≤ 9223372036854775807)))
(rec_ v0 ((v1 ++ (strOf [48]))) ((w64 (v2 + 1))))))
((cond (((bt v0 v2) == 94))
(k0 ByteArray.empty false)
((gd ((decide (0 ≤ (w64 (v2 + 1)))))
((gd ((decide ((w64 (v2 + 1)) ≤ (v0.size : Int))))
((gd ((decide (0 ≤ v2)))
((gd ((decide (v2 ≤ (w64 (v2 + 1)))))
((gd ((decide (v1.size + ((v0.extract (Int.toNat v2) (Int.toNat (w64 (v2 + 1))))).size ≤ 9223372036854775807)))
(rec_ v0 ((v1 ++ (v0.extract (Int.toNat v2) (Int.toNat (w64 (v2 + 1)))))) ((w64 (v2 + 1))))))))))))))))))))))))))))
(k1 v0 v1)))
(k1 v0 v1))
def spec_DualFormula_l0 {β : Type} (N : Nat)  : Nat → ByteArray → ByteArray → Int → (ByteArray → Bool → Option β) → (ByteArray → ByteArray → Option β) → Option β
  | 0, _, _, _, _, _ => none
  | F + 1, v0, v1, v2, k0, k1 => spec_DualFormula_l0b N  v0 v1 v2 (fun v0 v1 v2 => spec_DualFormula_l0 N  F v0 v1 v2 k0 k1) k0 k1
def spec_DualFormula {β : Type} (N : Nat) (a0 : ByteArray) (k : ByteArray → Bool → Option β) : Option β :=
spec_DualFormula_l0 N  N a0 ByteArray.empty 0 (fun e4_0 e4_1 =>
k e4_0 e4_1) (fun e5_0 e5_1 =>
spec_IsFormula N e5_0 fun r6 =>
k e5_1 r6)
/-! loop.example/g03403/spec.DrawIsReadOnce -/
def spec_DrawIsReadOnce {β : Type} (N : Nat) (a0 : List Int) (k : ByteArray → Option β) : Option β :=
spec_l1New_g0 N a0 (fun r2_0 r2_1 r2_2 =>
spec_l5Any_g0 N r2_0 r2_1 r2_2 (fun r3_0 r3_1 r3_2 r3_3 =>
k r3_0))
/-! loop.example/g03403/spec.LeavesOf -/
def spec_LeavesOf_l0b {β : Type} (N : Nat)  (v0 : ByteArray) (v1 : Int) (v2 : Int) (rec_ : ByteArray → Int → Int → Option β) (k0 : Int → Option β) : Option β :=
(cond ((decide (v2 < (v0.size : Int))))
((gd ((decide (0 ≤ v2)))
((gd ((decide (v2 < (v0.size : Int))))
((cond (((bt v0 v2) != 33))
((gd ((decide (0 ≤ v2)))
((gd ((decide (v2 < (v0.size : Int))))
((cond (((bt v0 v2) != 38))
((gd ((decide (0 ≤ v2)))
((gd ((decide (v2 < (v0.size : Int))))
((cond (((bt v0 v2) != 124))
((gd ((decide (0 ≤ v2)))
((gd ((decide (v2 < (v0.size : Int))))
((cond (((bt v0 v2) != 94))
(rec_ v0 ((w64 (v1 + 1))) ((w64 (v2 + 1))))
(rec_ v0 v1 ((w64 (v2 + 1))))))))))
(rec_ v0 v1 ((w64 (v2 + 1))))))))))
(rec_ v0 v1 ((w64 (v2 + 1))))))))))
(rec_ v0 v1 ((w64 (v2 + 1))))))))))
(k0 v1))
def spec_LeavesOf_l0 {β : Type} (N : Nat)  : Nat → ByteArray → Int → Int → (Int → Option β) → Option β
  | 0, _, _, _, _ => none
  | F + 1, v0, v1, v2, k0 => spec_LeavesOf_l0b N  v0 v1 v2 (fun v0 v1 v2 => spec_LeavesOf_l0 N  F v0 v1 v2 k0) k0
def spec_LeavesOf {β : Type} (N : Nat) (a0 : ByteArray) (k : Int → Option β) : Option β :=
spec_IsFormula N a0 fun r2 =>
(cond (!r2)
(k (-1))
(spec_LeavesOf_l0 N  N a0 0 0 (fun e3_0 =>
k e3_0)))
/-! loop.example/g03403/spec.l5Depth -/
def spec_l5Depth_b {β : Type} (N : Nat) (self : ByteArray → Int → (Int → Option β) → Option β) (a0 : ByteArray) (a1 : Int) (k : Int → Option β) : Option β :=
(gd ((decide (0 ≤ a1)))
((gd ((decide (a1 < (a0.size : Int))))
((cond (((bt a0 a1) == 33))
(self a0 ((w64 (a1 + 1))) fun r3 =>
k r3)
((cond (((bt a0 a1) == 38))
((cond (((bt a0 a1) == 38))
(self a0 ((w64 (a1 + 1))) fun r4 =>
spec_l5End N a0 ((w64 (a1 + 1))) fun r5 =>
self a0 r5 fun r6 =>
k ((w64 (1 + (mxI r4 r6)))))
(k 0)))
((cond (((bt a0 a1) == 124))
((cond (((bt a0 a1) == 124))
(self a0 ((w64 (a1 + 1))) fun r7 =>
spec_l5End N a0 ((w64 (a1 + 1))) fun r8 =>
self a0 r8 fun r9 =>
k ((w64 (1 + (mxI r7 r9)))))
(k 0)))
((cond (((bt a0 a1) == 94))
(self a0 ((w64 (a1 + 1))) fun r10 =>
spec_l5End N a0 ((w64 (a1 + 1))) fun r11 =>
self a0 r11 fun r12 =>
k ((w64 (1 + (mxI r10 r12)))))
(k 0))))))))))))
def spec_l5Depth_f {β : Type} (N : Nat) : Nat → ByteArray → Int → (Int → Option β) → Option β
  | 0, _, _, _ => none
  | F + 1, a0, a1, k => spec_l5Depth_b N (spec_l5Depth_f N F) a0 a1 k
def spec_l5Depth {β : Type} (N : Nat) (a0 : ByteArray) (a1 : Int) (k : Int → Option β) : Option β := spec_l5Depth_f N N a0 a1 k
/-! loop.example/g03403/spec.DepthOf -/
def spec_DepthOf {β : Type} (N : Nat) (a0 : ByteArray) (k : Int → Option β) : Option β :=
spec_IsFormula N a0 fun r2 =>
(cond (!r2)
(k (-1))
(spec_l5Depth N a0 0 fun r3 =>
k r3))
/-! loop.example/g03403/spec.IsReadOnce -/
def spec_IsReadOnce_l2b {β : Type} (N : Nat)  (v0 : ByteArray) (v1 : Int) (v2 : Int) (rec_ : ByteArray → Int → Int → Option β) (k0 : Bool → Option β) (k1 : ByteArray → Int → Option β) : Option β :=
(cond ((decide (v2 < v1)))
((gd ((decide (0 ≤ v1)))
((gd ((decide (v1 < (v0.size : Int))))
((gd ((decide (0 ≤ v2)))
((gd ((decide (v2 < (v0.size : Int))))
((cond (((bt v0 v1) == (bt v0 v2)))
((gd ((decide (0 ≤ v1)))
((gd ((decide (v1 < (v0.size : Int))))
((cond ((decide ((bt v0 v1) ≥ 97)))
((gd ((decide (0 ≤ v1)))
((gd ((decide (v1 < (v0.size : Int))))
((cond ((decide ((bt v0 v1) ≤ 101)))
(k0 false)
(rec_ v0 v1 ((w64 (v2 + 1))))))))))
(rec_ v0 v1 ((w64 (v2 + 1))))))))))
(rec_ v0 v1 ((w64 (v2 + 1))))))))))))))
(k1 v0 v1))
def spec_IsReadOnce_l2 {β : Type} (N : Nat)  : Nat → ByteArray → Int → Int → (Bool → Option β) → (ByteArray → Int → Option β) → Option β
  | 0, _, _, _, _, _ => none
  | F + 1, v0, v1, v2, k0, k1 => spec_IsReadOnce_l2b N  v0 v1 v2 (fun v0 v1 v2 => spec_IsReadOnce_l2 N  F v0 v1 v2 k0 k1) k0 k1
def spec_IsReadOnce_l0b {β : Type} (N : Nat)  (v0 : ByteArray) (v1 : Int) (rec_ : ByteArray → Int → Option β) (k0 : Bool → Option β) (k1 : ByteArray → Option β) : Option β :=
(cond ((decide (v1 < (v0.size : Int))))
(spec_IsReadOnce_l2 N  N v0 v1 0 (fun e2_0 =>
k0 e2_0) (fun e3_0 e3_1 =>
rec_ e3_0 ((w64 (e3_1 + 1)))))
(k1 v0))
def spec_IsReadOnce_l0 {β : Type} (N : Nat)  : Nat → ByteArray → Int → (Bool → Option β) → (ByteArray → Option β) → Option β
  | 0, _, _, _, _ => none
  | F + 1, v0, v1, k0, k1 => spec_IsReadOnce_l0b N  v0 v1 (fun v0 v1 => spec_IsReadOnce_l0 N  F v0 v1 k0 k1) k0 k1
def spec_IsReadOnce {β : Type} (N : Nat) (a0 : ByteArray) (k : Bool → Option β) : Option β :=
spec_IsReadOnce_l0 N  N a0 0 (fun e4_0 =>
k e4_0) (fun e5_0 =>
spec_IsFormula N e5_0 fun r6 =>
k r6)
/-! loop.example/g03403/spec.IsMonotoneFormula -/
def spec_IsMonotoneFormula_l0b {β : Type} (N : Nat)  (v0 : ByteArray) (v1 : Int) (rec_ : ByteArray → Int → Option β) (k0 : Bool → Option β) (k1 : ByteArray → Option β) : Option β :=
(cond ((decide (v1 < (v0.size : Int))))
((gd ((decide (0 ≤ v1)))
((gd ((decide (v1 < (v0.size : Int))))
((cond (((bt v0 v1) == 33))
(k0 false)
((gd ((decide (0 ≤ v1)))
((gd ((decide (v1 < (v0.size : Int))))
((cond (((bt v0 v1) == 94))
(k0 false)
(rec_ v0 ((w64 (v1 + 1))))))))))))))))
(k1 v0))
def spec_IsMonotoneFormula_l0 {β : Type} (N : Nat)  : Nat → ByteArray → Int → (Bool → Option β) → (ByteArray → Option β) → Option β
  | 0, _, _, _, _ => none
  | F + 1, v0, v1, k0, k1 => spec_IsMonotoneFormula_l0b N  v0 v1 (fun v0 v1 => spec_IsMonotoneFormula_l0 N  F v0 v1 k0 k1) k0 k1
def spec_IsMonotoneFormula {β : Type} (N : Nat) (a0 : ByteArray) (k : Bool → Option β) : Option β :=
spec_IsMonotoneFormula_l0 N  N a0 0 (fun e2_0 =>
k e2_0) (fun e3_0 =>
spec_IsFormula N e3_0 fun r4 =>
k r4)
/-! loop.example/g03403/impl.DualFormula: by a walk -/
def oth8 (n : Nat) : Nat := cond (n == 38) 124 (cond (n == 124) 38 (cond (n == 48) 49 (cond (n == 49) 48 n)))
def dualB (s : ByteArray) : ByteArray := ⟨s.data.map fun b => UInt8.ofNat (oth8 b.toNat)⟩
def impl_DualFormula {β : Type} (N : Nat) (a0 : ByteArray) (k : ByteArray → Bool → Option β) : Option β :=
(gd (decide (a0.size ≤ 1000))
(impl_IsFormula N a0 fun r3 =>
(cond r3
(strings_Contains N a0 (strOf [94]) fun r4 =>
(cond r4
(k ByteArray.empty false)
(k (dualB a0) true)))
(k ByteArray.empty false))))

/-! loop.example/g03403/laws.FnFormulas -/
def laws_FnFormulas_tail {β : Type} (N : Nat) (a0 : List Int) (k : Bool → Option β) : Option β :=
spec_DrawPushNegations N a0 fun r36 =>
impl_PushNegations N r36 fun r37 r38 =>
spec_PushNegations N r36 fun r39 r40 =>
spec_DrawDualFormula N a0 fun r41 =>
impl_DualFormula N r41 fun r42 r43 =>
spec_DualFormula N r41 fun r44 r45 =>
spec_DrawIsReadOnce N a0 fun r46 =>
(cond ((r37.toList == r39.toList))
((cond ((r38 == r40))
((cond ((r42.toList == r44.toList))
((cond ((r43 == r45))
(impl_IsFormula N r36 fun r47 =>
spec_IsFormula N r36 fun r48 =>
(cond ((r47 == r48))
(impl_LeavesOf N r36 fun r49 =>
spec_LeavesOf N r36 fun r50 =>
(cond ((r49 == r50))
(impl_DepthOf N r36 fun r51 =>
spec_DepthOf N r36 fun r52 =>
(cond ((r51 == r52))
(impl_IsReadOnce N r46 fun r53 =>
spec_IsReadOnce N r46 fun r54 =>
(cond ((r53 == r54))
(impl_IsMonotoneFormula N r46 fun r55 =>
spec_IsMonotoneFormula N r46 fun r56 =>
k ((r55 == r56)))
(k false)))
(k false)))
(k false)))
(k false)))
(k false)))
(k false)))
(k false)))
(k false))
def laws_FnFormulas {β : Type} (N : Nat) (a0 : List Int) (k : Bool → Option β) : Option β :=
laws_big N a0 fun r2 =>
(cond r2
(k true)
(spec_DrawTableOfFormula N a0 fun r3 r4 =>
impl_TableOfFormula N r3 r4 fun r5 r6 r7 =>
spec_TableOfFormula N r3 r4 fun r8 r9 r10 =>
(cond ((!((r5 == r8) && (r6 == r9))))
(k false)
((cond ((!(r7 == r10)))
(k false)
((cond r7
(impl_IsFormula N r3 fun r11 =>
(cond (!r11)
(k false)
((cond r7
(impl_PushNegations N r3 fun r12 r13 =>
(cond r13
(impl_TableOfFormula N r12 r4 fun r14 r15 r16 =>
(cond (!r16)
(k false)
((cond ((!((r14 == r8) && (r15 == r9))))
(k false)
(impl_LeavesOf N r12 fun r17 =>
impl_LeavesOf N r3 fun r18 =>
(cond ((r17 != r18))
(k false)
(impl_DepthOf N r12 fun r19 =>
impl_DepthOf N r3 fun r20 =>
(cond ((r19 != r20))
(k false)
(impl_DualFormula N r3 fun r21 r22 =>
(cond r22
(impl_TableOfFormula N r21 r4 fun r23 r24 r25 =>
spec_DualTable N r8 r9 fun r26 r27 r28 =>
(cond (!r25)
(k false)
((cond ((!((r23 == r26) && (r24 == r27))))
(k false)
(impl_IsMonotoneFormula N r3 fun r29 =>
(cond r29
(impl_IsMonotone N r8 r9 fun r30 =>
(cond (!r30)
(k false)
(impl_IsReadOnce N r3 fun r31 =>
(cond r31
(impl_LeavesOf N r3 fun r32 =>
impl_VariablesOf N r8 r9 fun r33 =>
(cond ((decide (r32 < (r33.length : Int))))
(k false)
(impl_VariablesOf N r8 r9 fun r34 =>
impl_LeavesOf N r3 fun r35 =>
(cond ((decide ((r34.length : Int) > r35)))
(k false)
(laws_FnFormulas_tail N a0 k)))))
(impl_VariablesOf N r8 r9 fun r57 =>
impl_LeavesOf N r3 fun r58 =>
(cond ((decide ((r57.length : Int) > r58)))
(k false)
(laws_FnFormulas_tail N a0 k)))))))
(impl_IsReadOnce N r3 fun r80 =>
(cond r80
(impl_LeavesOf N r3 fun r81 =>
impl_VariablesOf N r8 r9 fun r82 =>
(cond ((decide (r81 < (r82.length : Int))))
(k false)
(impl_VariablesOf N r8 r9 fun r83 =>
impl_LeavesOf N r3 fun r84 =>
(cond ((decide ((r83.length : Int) > r84)))
(k false)
(laws_FnFormulas_tail N a0 k)))))
(impl_VariablesOf N r8 r9 fun r106 =>
impl_LeavesOf N r3 fun r107 =>
(cond ((decide ((r106.length : Int) > r107)))
(k false)
(laws_FnFormulas_tail N a0 k)))))))))))
(impl_IsMonotoneFormula N r3 fun r129 =>
(cond r129
(impl_IsMonotone N r8 r9 fun r130 =>
(cond (!r130)
(k false)
(impl_IsReadOnce N r3 fun r131 =>
(cond r131
(impl_LeavesOf N r3 fun r132 =>
impl_VariablesOf N r8 r9 fun r133 =>
(cond ((decide (r132 < (r133.length : Int))))
(k false)
(impl_VariablesOf N r8 r9 fun r134 =>
impl_LeavesOf N r3 fun r135 =>
(cond ((decide ((r134.length : Int) > r135)))
(k false)
(laws_FnFormulas_tail N a0 k)))))
(impl_VariablesOf N r8 r9 fun r157 =>
impl_LeavesOf N r3 fun r158 =>
(cond ((decide ((r157.length : Int) > r158)))
(k false)
(laws_FnFormulas_tail N a0 k)))))))
(impl_IsReadOnce N r3 fun r180 =>
(cond r180
(impl_LeavesOf N r3 fun r181 =>
impl_VariablesOf N r8 r9 fun r182 =>
(cond ((decide (r181 < (r182.length : Int))))
(k false)
(impl_VariablesOf N r8 r9 fun r183 =>
impl_LeavesOf N r3 fun r184 =>
(cond ((decide ((r183.length : Int) > r184)))
(k false)
(laws_FnFormulas_tail N a0 k)))))
(impl_VariablesOf N r8 r9 fun r206 =>
impl_LeavesOf N r3 fun r207 =>
(cond ((decide ((r206.length : Int) > r207)))
(k false)
(laws_FnFormulas_tail N a0 k)))))))))))))))))
(impl_DualFormula N r3 fun r229 r230 =>
(cond r230
(impl_TableOfFormula N r229 r4 fun r231 r232 r233 =>
spec_DualTable N r8 r9 fun r234 r235 r236 =>
(cond (!r233)
(k false)
((cond ((!((r231 == r234) && (r232 == r235))))
(k false)
(impl_IsMonotoneFormula N r3 fun r237 =>
(cond r237
(impl_IsMonotone N r8 r9 fun r238 =>
(cond (!r238)
(k false)
(impl_IsReadOnce N r3 fun r239 =>
(cond r239
(impl_LeavesOf N r3 fun r240 =>
impl_VariablesOf N r8 r9 fun r241 =>
(cond ((decide (r240 < (r241.length : Int))))
(k false)
(impl_VariablesOf N r8 r9 fun r242 =>
impl_LeavesOf N r3 fun r243 =>
(cond ((decide ((r242.length : Int) > r243)))
(k false)
(laws_FnFormulas_tail N a0 k)))))
(impl_VariablesOf N r8 r9 fun r265 =>
impl_LeavesOf N r3 fun r266 =>
(cond ((decide ((r265.length : Int) > r266)))
(k false)
(laws_FnFormulas_tail N a0 k)))))))
(impl_IsReadOnce N r3 fun r288 =>
(cond r288
(impl_LeavesOf N r3 fun r289 =>
impl_VariablesOf N r8 r9 fun r290 =>
(cond ((decide (r289 < (r290.length : Int))))
(k false)
(impl_VariablesOf N r8 r9 fun r291 =>
impl_LeavesOf N r3 fun r292 =>
(cond ((decide ((r291.length : Int) > r292)))
(k false)
(laws_FnFormulas_tail N a0 k)))))
(impl_VariablesOf N r8 r9 fun r314 =>
impl_LeavesOf N r3 fun r315 =>
(cond ((decide ((r314.length : Int) > r315)))
(k false)
(laws_FnFormulas_tail N a0 k)))))))))))
(impl_IsMonotoneFormula N r3 fun r337 =>
(cond r337
(impl_IsMonotone N r8 r9 fun r338 =>
(cond (!r338)
(k false)
(impl_IsReadOnce N r3 fun r339 =>
(cond r339
(impl_LeavesOf N r3 fun r340 =>
impl_VariablesOf N r8 r9 fun r341 =>
(cond ((decide (r340 < (r341.length : Int))))
(k false)
(impl_VariablesOf N r8 r9 fun r342 =>
impl_LeavesOf N r3 fun r343 =>
(cond ((decide ((r342.length : Int) > r343)))
(k false)
(laws_FnFormulas_tail N a0 k)))))
(impl_VariablesOf N r8 r9 fun r365 =>
impl_LeavesOf N r3 fun r366 =>
(cond ((decide ((r365.length : Int) > r366)))
(k false)
(laws_FnFormulas_tail N a0 k)))))))
(impl_IsReadOnce N r3 fun r388 =>
(cond r388
(impl_LeavesOf N r3 fun r389 =>
impl_VariablesOf N r8 r9 fun r390 =>
(cond ((decide (r389 < (r390.length : Int))))
(k false)
(impl_VariablesOf N r8 r9 fun r391 =>
impl_LeavesOf N r3 fun r392 =>
(cond ((decide ((r391.length : Int) > r392)))
(k false)
(laws_FnFormulas_tail N a0 k)))))
(impl_VariablesOf N r8 r9 fun r414 =>
impl_LeavesOf N r3 fun r415 =>
(cond ((decide ((r414.length : Int) > r415)))
(k false)
(laws_FnFormulas_tail N a0 k)))))))))))
(laws_FnFormulas_tail N a0 k)))))
((cond r7
(impl_PushNegations N r3 fun r458 r459 =>
(cond r459
(impl_TableOfFormula N r458 r4 fun r460 r461 r462 =>
(cond (!r462)
(k false)
((cond ((!((r460 == r8) && (r461 == r9))))
(k false)
(impl_LeavesOf N r458 fun r463 =>
impl_LeavesOf N r3 fun r464 =>
(cond ((r463 != r464))
(k false)
(impl_DepthOf N r458 fun r465 =>
impl_DepthOf N r3 fun r466 =>
(cond ((r465 != r466))
(k false)
(impl_DualFormula N r3 fun r467 r468 =>
(cond r468
(impl_TableOfFormula N r467 r4 fun r469 r470 r471 =>
spec_DualTable N r8 r9 fun r472 r473 r474 =>
(cond (!r471)
(k false)
((cond ((!((r469 == r472) && (r470 == r473))))
(k false)
(impl_IsMonotoneFormula N r3 fun r475 =>
(cond r475
(impl_IsMonotone N r8 r9 fun r476 =>
(cond (!r476)
(k false)
(impl_IsReadOnce N r3 fun r477 =>
(cond r477
(impl_LeavesOf N r3 fun r478 =>
impl_VariablesOf N r8 r9 fun r479 =>
(cond ((decide (r478 < (r479.length : Int))))
(k false)
(impl_VariablesOf N r8 r9 fun r480 =>
impl_LeavesOf N r3 fun r481 =>
(cond ((decide ((r480.length : Int) > r481)))
(k false)
(laws_FnFormulas_tail N a0 k)))))
(impl_VariablesOf N r8 r9 fun r503 =>
impl_LeavesOf N r3 fun r504 =>
(cond ((decide ((r503.length : Int) > r504)))
(k false)
(laws_FnFormulas_tail N a0 k)))))))
(impl_IsReadOnce N r3 fun r526 =>
(cond r526
(impl_LeavesOf N r3 fun r527 =>
impl_VariablesOf N r8 r9 fun r528 =>
(cond ((decide (r527 < (r528.length : Int))))
(k false)
(impl_VariablesOf N r8 r9 fun r529 =>
impl_LeavesOf N r3 fun r530 =>
(cond ((decide ((r529.length : Int) > r530)))
(k false)
(laws_FnFormulas_tail N a0 k)))))
(impl_VariablesOf N r8 r9 fun r552 =>
impl_LeavesOf N r3 fun r553 =>
(cond ((decide ((r552.length : Int) > r553)))
(k false)
(laws_FnFormulas_tail N a0 k)))))))))))
(impl_IsMonotoneFormula N r3 fun r575 =>
(cond r575
(impl_IsMonotone N r8 r9 fun r576 =>
(cond (!r576)
(k false)
(impl_IsReadOnce N r3 fun r577 =>
(cond r577
(impl_LeavesOf N r3 fun r578 =>
impl_VariablesOf N r8 r9 fun r579 =>
(cond ((decide (r578 < (r579.length : Int))))
(k false)
(impl_VariablesOf N r8 r9 fun r580 =>
impl_LeavesOf N r3 fun r581 =>
(cond ((decide ((r580.length : Int) > r581)))
(k false)
(laws_FnFormulas_tail N a0 k)))))
(impl_VariablesOf N r8 r9 fun r603 =>
impl_LeavesOf N r3 fun r604 =>
(cond ((decide ((r603.length : Int) > r604)))
(k false)
(laws_FnFormulas_tail N a0 k)))))))
(impl_IsReadOnce N r3 fun r626 =>
(cond r626
(impl_LeavesOf N r3 fun r627 =>
impl_VariablesOf N r8 r9 fun r628 =>
(cond ((decide (r627 < (r628.length : Int))))
(k false)
(impl_VariablesOf N r8 r9 fun r629 =>
impl_LeavesOf N r3 fun r630 =>
(cond ((decide ((r629.length : Int) > r630)))
(k false)
(laws_FnFormulas_tail N a0 k)))))
(impl_VariablesOf N r8 r9 fun r652 =>
impl_LeavesOf N r3 fun r653 =>
(cond ((decide ((r652.length : Int) > r653)))
(k false)
(laws_FnFormulas_tail N a0 k)))))))))))))))))
(impl_DualFormula N r3 fun r675 r676 =>
(cond r676
(impl_TableOfFormula N r675 r4 fun r677 r678 r679 =>
spec_DualTable N r8 r9 fun r680 r681 r682 =>
(cond (!r679)
(k false)
((cond ((!((r677 == r680) && (r678 == r681))))
(k false)
(impl_IsMonotoneFormula N r3 fun r683 =>
(cond r683
(impl_IsMonotone N r8 r9 fun r684 =>
(cond (!r684)
(k false)
(impl_IsReadOnce N r3 fun r685 =>
(cond r685
(impl_LeavesOf N r3 fun r686 =>
impl_VariablesOf N r8 r9 fun r687 =>
(cond ((decide (r686 < (r687.length : Int))))
(k false)
(impl_VariablesOf N r8 r9 fun r688 =>
impl_LeavesOf N r3 fun r689 =>
(cond ((decide ((r688.length : Int) > r689)))
(k false)
(laws_FnFormulas_tail N a0 k)))))
(impl_VariablesOf N r8 r9 fun r711 =>
impl_LeavesOf N r3 fun r712 =>
(cond ((decide ((r711.length : Int) > r712)))
(k false)
(laws_FnFormulas_tail N a0 k)))))))
(impl_IsReadOnce N r3 fun r734 =>
(cond r734
(impl_LeavesOf N r3 fun r735 =>
impl_VariablesOf N r8 r9 fun r736 =>
(cond ((decide (r735 < (r736.length : Int))))
(k false)
(impl_VariablesOf N r8 r9 fun r737 =>
impl_LeavesOf N r3 fun r738 =>
(cond ((decide ((r737.length : Int) > r738)))
(k false)
(laws_FnFormulas_tail N a0 k)))))
(impl_VariablesOf N r8 r9 fun r760 =>
impl_LeavesOf N r3 fun r761 =>
(cond ((decide ((r760.length : Int) > r761)))
(k false)
(laws_FnFormulas_tail N a0 k)))))))))))
(impl_IsMonotoneFormula N r3 fun r783 =>
(cond r783
(impl_IsMonotone N r8 r9 fun r784 =>
(cond (!r784)
(k false)
(impl_IsReadOnce N r3 fun r785 =>
(cond r785
(impl_LeavesOf N r3 fun r786 =>
impl_VariablesOf N r8 r9 fun r787 =>
(cond ((decide (r786 < (r787.length : Int))))
(k false)
(impl_VariablesOf N r8 r9 fun r788 =>
impl_LeavesOf N r3 fun r789 =>
(cond ((decide ((r788.length : Int) > r789)))
(k false)
(laws_FnFormulas_tail N a0 k)))))
(impl_VariablesOf N r8 r9 fun r811 =>
impl_LeavesOf N r3 fun r812 =>
(cond ((decide ((r811.length : Int) > r812)))
(k false)
(laws_FnFormulas_tail N a0 k)))))))
(impl_IsReadOnce N r3 fun r834 =>
(cond r834
(impl_LeavesOf N r3 fun r835 =>
impl_VariablesOf N r8 r9 fun r836 =>
(cond ((decide (r835 < (r836.length : Int))))
(k false)
(impl_VariablesOf N r8 r9 fun r837 =>
impl_LeavesOf N r3 fun r838 =>
(cond ((decide ((r837.length : Int) > r838)))
(k false)
(laws_FnFormulas_tail N a0 k)))))
(impl_VariablesOf N r8 r9 fun r860 =>
impl_LeavesOf N r3 fun r861 =>
(cond ((decide ((r860.length : Int) > r861)))
(k false)
(laws_FnFormulas_tail N a0 k)))))))))))
(laws_FnFormulas_tail N a0 k))))))))))
end Go.Proofs.Ytddflpokemgnmaa
