/- The texts of the functions that the claims reach: plain Lean, no program. -/
import Derived.Test.YtemihnclhcobnaaGreatDoorRvLib
namespace Go.Proofs.YtemihnclhcobnaaGreatDoor
open Go.Rv
set_option linter.unusedVariables false
set_option maxRecDepth 100000
/-! loop.example/g03403/spec.l1In -/
def zj0 {β : Type} (N : Nat) (a0 : Int) (a1 : Int) (a2 : Int) (k : Bool → Option β) : Option β :=
(cond ((decide (a0 ≥ a1)))
(k ((decide (a0 ≤ a2))))
(k false))
/-! loop.example/g03403/spec.ParseTable -/
def zj1 {β : Type} (N : Nat)  (v0 : ByteArray) (v1 : Int) (v2 : Int) (v3 : Int) (v4 : Int) (v5 : Int) (rec_ : ByteArray → Int → Int → Int → Int → Int → Option β) (k0 : Bool → Int → Int → Option β) (k1 : Int → Int → Int → Int → Option β) : Option β :=
(cond ((decide (v3 < (v0.size : Int))))
((gd ((decide (0 ≤ v3)))
((gd ((decide (v3 < (v0.size : Int))))
((cond (((bt v0 v3) == 49))
((gd ((decide (0 ≤ v3)))
(rec_ v0 v1 ((bits .or .i64 v2 (shlI .i64 1 v3))) ((w64 (v3 + 1))) v4 v5)))
((cond (((bt v0 v3) == 48))
(rec_ v0 v1 v2 ((w64 (v3 + 1))) v4 v5)
(k0 false 0 0)))))))))
(k1 v1 v2 v4 v5))
def zj2 {β : Type} (N : Nat)  : Nat → ByteArray → Int → Int → Int → Int → Int → (Bool → Int → Int → Option β) → (Int → Int → Int → Int → Option β) → Option β
  | 0, _, _, _, _, _, _, _, _ => none
  | F + 1, v0, v1, v2, v3, v4, v5, k0, k1 => zj1 N  v0 v1 v2 v3 v4 v5 (fun v0 v1 v2 v3 v4 v5 => zj2 N  F v0 v1 v2 v3 v4 v5 k0 k1) k0 k1
def zj3 {β : Type} (N : Nat)  (v0 : ByteArray) (v1 : Int) (v2 : Int) (v3 : Int) (rec_ : ByteArray → Int → Int → Int → Option β) (k0 : Bool → Int → Int → Option β) (k1 : Int → Int → Option β) : Option β :=
(cond ((decide (v1 ≤ 5)))
((gd ((decide (0 ≤ v1)))
((cond (((v0.size : Int) != (shlI .i64 1 v1)))
(rec_ v0 ((w64 (v1 + 1))) v2 v3)
(zj2 N  N v0 v1 0 0 v2 v3 (fun e4_0 e4_1 e4_2 =>
k0 e4_0 e4_1 e4_2) (fun e5_0 e5_1 e5_2 e5_3 =>
k0 true e5_0 e5_1))))))
(k1 v2 v3))
def zj4 {β : Type} (N : Nat)  : Nat → ByteArray → Int → Int → Int → (Bool → Int → Int → Option β) → (Int → Int → Option β) → Option β
  | 0, _, _, _, _, _, _ => none
  | F + 1, v0, v1, v2, v3, k0, k1 => zj3 N  v0 v1 v2 v3 (fun v0 v1 v2 v3 => zj4 N  F v0 v1 v2 v3 k0 k1) k0 k1
def zj5 {β : Type} (N : Nat) (a0 : ByteArray) (k : Int → Int → Bool → Option β) : Option β :=
zj4 N  N a0 0 0 0 (fun e6_0 e6_1 e6_2 =>
k e6_1 e6_2 e6_0) (fun e7_0 e7_1 =>
k 0 0 false)
/-! loop.example/g03403/spec.IsTerm -/
def zj6 {β : Type} (N : Nat) (a0 : Int) (a1 : Int) (a2 : Int) (k : Bool → Option β) : Option β :=
zj0 N a0 0 5 fun r4 =>
(cond r4
((gd ((decide (0 ≤ a0)))
(zj0 N a1 0 ((w64 ((shlI .i64 1 a0) - 1))) fun r5 =>
(cond r5
(zj0 N a2 0 a1 fun r6 =>
(cond r6
(k (((bits .and .i64 a2 a1) == a2)))
(k false)))
(k false)))))
(k false))
/-! loop.example/g03403/spec.FormatTerm -/
def zj7 {β : Type} (N : Nat)  (v0 : Int) (v1 : ByteArray) (v2 : Int) (v3 : Int) (v4 : Int) (rec_ : Int → ByteArray → Int → Int → Int → Option β) (k0 : Int → ByteArray → Int → Int → Option β) : Option β :=
zj6 N v0 v3 v4 fun r4 =>
(cond r4
((cond ((decide (v2 < v0)))
((gd ((decide (0 ≤ v2)))
((cond (((bits .and .i64 (shrI .i64 v3 v2) 1) == 0))
(rec_ v0 v1 ((w64 (v2 + 1))) v3 v4)
((gd ((decide (0 ≤ v2)))
((cond (((bits .and .i64 (shrI .i64 v4 v2) 1) == 0))
((gd ((decide (v1.size + ((strOf [33])).size ≤ 9223372036854775807)))
((gd ((decide (0 ≤ (w64 (v2 + 1)))))
((gd ((decide ((w64 (v2 + 1)) ≤ (((strOf [97, 98, 99, 100, 101])).size : Int))))
((gd ((decide (0 ≤ v2)))
((gd ((decide (v2 ≤ (w64 (v2 + 1)))))
((gd ((decide (((v1 ++ (strOf [33]))).size + ((((strOf [97, 98, 99, 100, 101])).extract (Int.toNat v2) (Int.toNat (w64 (v2 + 1))))).size ≤ 9223372036854775807)))
(rec_ v0 (((v1 ++ (strOf [33])) ++ (((strOf [97, 98, 99, 100, 101])).extract (Int.toNat v2) (Int.toNat (w64 (v2 + 1)))))) ((w64 (v2 + 1))) v3 v4)))))))))))))
((gd ((decide (0 ≤ (w64 (v2 + 1)))))
((gd ((decide ((w64 (v2 + 1)) ≤ (((strOf [97, 98, 99, 100, 101])).size : Int))))
((gd ((decide (0 ≤ v2)))
((gd ((decide (v2 ≤ (w64 (v2 + 1)))))
((gd ((decide (v1.size + ((((strOf [97, 98, 99, 100, 101])).extract (Int.toNat v2) (Int.toNat (w64 (v2 + 1))))).size ≤ 9223372036854775807)))
(rec_ v0 ((v1 ++ (((strOf [97, 98, 99, 100, 101])).extract (Int.toNat v2) (Int.toNat (w64 (v2 + 1)))))) ((w64 (v2 + 1))) v3 v4)))))))))))))))))))
(k0 v0 v1 v3 v4)))
(k0 v0 v1 v3 v4))
def zj8 {β : Type} (N : Nat)  : Nat → Int → ByteArray → Int → Int → Int → (Int → ByteArray → Int → Int → Option β) → Option β
  | 0, _, _, _, _, _, _ => none
  | F + 1, v0, v1, v2, v3, v4, k0 => zj7 N  v0 v1 v2 v3 v4 (fun v0 v1 v2 v3 v4 => zj8 N  F v0 v1 v2 v3 v4 k0) k0
def zj9 {β : Type} (N : Nat) (a0 : Int) (a1 : Int) (a2 : Int) (k : ByteArray → Option β) : Option β :=
zj8 N  N a0 ByteArray.empty 0 a1 a2 (fun e5_0 e5_1 e5_2 e5_3 =>
(cond ((e5_1.toList == ByteArray.empty.toList))
(zj6 N e5_0 e5_2 e5_3 fun r6 =>
(cond r6
(k ((strOf [49])))
(k e5_1)))
(k e5_1)))
/-! loop.example/g03403/spec.ParseTerm -/
def zj10 {β : Type} (N : Nat)  (v0 : Int) (v1 : ByteArray) (v2 : Bool) (v3 : Int) (v4 : Int) (v5 : Int) (v6 : Int) (v7 : Int) (rec_ : Int → ByteArray → Bool → Int → Int → Int → Int → Int → Option β) (k0 : Bool → Int → Int → Option β) (k1 : Int → ByteArray → Int → Int → Int → Int → Option β) : Option β :=
(cond ((decide (v3 < (v1.size : Int))))
((cond ((!(v1.toList == ((strOf [49])).toList)))
((gd ((decide (0 ≤ v3)))
((gd ((decide (v3 < (v1.size : Int))))
((cond (((bt v1 v3) == 33))
(rec_ v0 v1 true ((w64 (v3 + 1))) v4 v5 v6 v7)
((gd ((decide (0 ≤ v3)))
((gd ((decide (v3 < (v1.size : Int))))
(zj0 N v0 0 5 fun r5 =>
(cond (!r5)
(k0 false 0 0)
(zj0 N ((w64 ((w64 ((bt v1 v3))) - 97))) 0 ((w64 (v0 - 1))) fun r6 =>
(cond (!r6)
(k0 false 0 0)
((gd ((decide (0 ≤ (w64 ((w64 ((bt v1 v3))) - 97)))))
((cond (!v2)
((gd ((decide (0 ≤ (w64 ((w64 ((bt v1 v3))) - 97)))))
(rec_ v0 v1 false ((w64 (v3 + 1))) v4 v5 ((bits .or .i64 v6 (shlI .i64 1 (w64 ((w64 ((bt v1 v3))) - 97))))) ((bits .or .i64 v7 (shlI .i64 1 (w64 ((w64 ((bt v1 v3))) - 97))))))))
(rec_ v0 v1 false ((w64 (v3 + 1))) v4 v5 ((bits .or .i64 v6 (shlI .i64 1 (w64 ((w64 ((bt v1 v3))) - 97))))) v7)))))))))))))))))))
(k1 v0 v1 v4 v5 v6 v7)))
(k1 v0 v1 v4 v5 v6 v7))
def zj11 {β : Type} (N : Nat)  : Nat → Int → ByteArray → Bool → Int → Int → Int → Int → Int → (Bool → Int → Int → Option β) → (Int → ByteArray → Int → Int → Int → Int → Option β) → Option β
  | 0, _, _, _, _, _, _, _, _, _, _ => none
  | F + 1, v0, v1, v2, v3, v4, v5, v6, v7, k0, k1 => zj10 N  v0 v1 v2 v3 v4 v5 v6 v7 (fun v0 v1 v2 v3 v4 v5 v6 v7 => zj11 N  F v0 v1 v2 v3 v4 v5 v6 v7 k0 k1) k0 k1
def zj12 {β : Type} (N : Nat) (a0 : Int) (a1 : ByteArray) (k : Int → Int → Bool → Option β) : Option β :=
zj11 N  N a0 a1 false 0 0 0 0 0 (fun e7_0 e7_1 e7_2 =>
k e7_1 e7_2 e7_0) (fun e8_0 e8_1 e8_2 e8_3 e8_4 e8_5 =>
(cond ((e8_1.toList == ByteArray.empty.toList))
(k 0 0 false)
(zj9 N e8_0 e8_4 e8_5 fun r9 =>
(cond ((!(r9.toList == e8_1.toList)))
(k 0 0 false)
(k e8_4 e8_5 true)))))
/-! loop.example/g03403/spec.l11Anf -/
def zj13 {β : Type} (N : Nat)  (v0 : Int) (v1 : Int) (v2 : Int) (v3 : Int) (v4 : Int) (v5 : Int) (rec_ : Int → Int → Int → Int → Int → Int → Option β) (k0 : Int → Int → Int → Int → Int → Option β) : Option β :=
(cond ((decide (v3 ≤ v1)))
((cond (((bits .and .i64 v3 v1) == v3))
((gd ((decide (0 ≤ v3)))
(rec_ v0 v1 ((w64 (v2 + (bits .and .i64 (shrI .i64 v5 v3) 1)))) ((w64 (v3 + 1))) v4 v5)))
(rec_ v0 v1 v2 ((w64 (v3 + 1))) v4 v5)))
(k0 v0 v1 v2 v4 v5))
def zj14 {β : Type} (N : Nat)  : Nat → Int → Int → Int → Int → Int → Int → (Int → Int → Int → Int → Int → Option β) → Option β
  | 0, _, _, _, _, _, _, _ => none
  | F + 1, v0, v1, v2, v3, v4, v5, k0 => zj13 N  v0 v1 v2 v3 v4 v5 (fun v0 v1 v2 v3 v4 v5 => zj14 N  F v0 v1 v2 v3 v4 v5 k0) k0
def zj15 {β : Type} (N : Nat)  (v0 : Int) (v1 : Int) (v2 : Int) (v3 : Int) (rec_ : Int → Int → Int → Int → Option β) (k0 : Int → Option β) : Option β :=
(gd ((decide (0 ≤ v2)))
((cond ((decide (v1 < (shlI .i64 1 v2))))
(zj14 N  N v0 v1 0 0 v2 v3 (fun e3_0 e3_1 e3_2 e3_3 e3_4 =>
(gd ((decide (0 ≤ e3_1)))
(rec_ ((bits .or .i64 e3_0 (shlI .i64 (remI e3_2 2) e3_1))) ((w64 (e3_1 + 1))) e3_3 e3_4))))
(k0 v0))))
def zj16 {β : Type} (N : Nat)  : Nat → Int → Int → Int → Int → (Int → Option β) → Option β
  | 0, _, _, _, _, _ => none
  | F + 1, v0, v1, v2, v3, k0 => zj15 N  v0 v1 v2 v3 (fun v0 v1 v2 v3 => zj16 N  F v0 v1 v2 v3 k0) k0
def zj17 {β : Type} (N : Nat) (a0 : Int) (a1 : Int) (k : Int → Option β) : Option β :=
zj16 N  N 0 0 a0 a1 (fun e4_0 =>
k e4_0)
/-! loop.example/g03403/spec.IsTable -/
def zj18 {β : Type} (N : Nat) (a0 : Int) (a1 : Int) (k : Bool → Option β) : Option β :=
zj0 N a0 0 5 fun r3 =>
(cond r3
((gd ((decide (0 ≤ a0)))
((gd ((decide (0 ≤ (shlI .u64 1 a0))))
(zj0 N a1 0 ((w64 ((shlI .i64 1 (shlI .u64 1 a0)) - 1))) fun r4 =>
k r4)))))
(k false))
/-! loop.example/g03403/spec.FormatAnf -/
def zj19 {β : Type} (N : Nat)  (v0 : ByteArray) (v1 : Int) (v2 : Int) (v3 : Int) (v4 : Int) (rec_ : ByteArray → Int → Int → Int → Int → Option β) (k0 : ByteArray → Option β) : Option β :=
(gd ((decide (0 ≤ v3)))
((cond ((decide (v2 < (shlI .i64 1 v3))))
((gd ((decide (0 ≤ v2)))
((cond (((bits .and .i64 (shrI .i64 v1 v2) 1) == 0))
(rec_ v0 v1 ((w64 (v2 + 1))) v3 v4)
((cond ((!(v0.toList == ByteArray.empty.toList)))
((gd ((decide (v0.size + ((strOf [43])).size ≤ 9223372036854775807)))
(zj9 N v3 v2 v2 fun r5 =>
(gd ((decide (((v0 ++ (strOf [43]))).size + r5.size ≤ 9223372036854775807)))
(rec_ (((v0 ++ (strOf [43])) ++ r5)) v1 ((w64 (v2 + 1))) v3 v4)))))
(zj9 N v3 v2 v2 fun r6 =>
(gd ((decide (v0.size + r6.size ≤ 9223372036854775807)))
(rec_ ((v0 ++ r6)) v1 ((w64 (v2 + 1))) v3 v4)))))))))
(k0 v0))))
def zj20 {β : Type} (N : Nat)  : Nat → ByteArray → Int → Int → Int → Int → (ByteArray → Option β) → Option β
  | 0, _, _, _, _, _, _ => none
  | F + 1, v0, v1, v2, v3, v4, k0 => zj19 N  v0 v1 v2 v3 v4 (fun v0 v1 v2 v3 v4 => zj20 N  F v0 v1 v2 v3 v4 k0) k0
def zj21 {β : Type} (N : Nat) (a0 : Int) (a1 : Int) (k : ByteArray → Option β) : Option β :=
zj18 N a0 a1 fun r3 =>
(cond (!r3)
(k ByteArray.empty)
(zj17 N a0 a1 fun r4 =>
zj20 N  N ByteArray.empty r4 0 a0 a1 (fun e7_0 =>
(cond ((e7_0.toList == ByteArray.empty.toList))
(k ((strOf [48])))
(k e7_0)))))
/-! loop.example/g03403/spec.ParseAnf -/
def zj22 {β : Type} (N : Nat)  (v0 : Int) (v1 : ByteArray) (v2 : Int) (v3 : ByteArray) (v4 : Int) (v5 : Int) (v6 : Int) (rec_ : Int → ByteArray → Int → ByteArray → Int → Int → Int → Option β) (k0 : Bool → Int → Int → Option β) (k1 : Int → ByteArray → Int → Int → Int → Option β) : Option β :=
(cond ((decide (v4 ≤ (v1.size : Int))))
((cond ((!(v1.toList == ((strOf [48])).toList)))
((cond ((decide (v4 < (v1.size : Int))))
((gd ((decide (0 ≤ v4)))
((gd ((decide (v4 < (v1.size : Int))))
((cond (((bt v1 v4) != 43))
((gd ((decide (0 ≤ (w64 (v4 + 1)))))
((gd ((decide ((w64 (v4 + 1)) ≤ (v1.size : Int))))
((gd ((decide (0 ≤ v4)))
((gd ((decide (v4 ≤ (w64 (v4 + 1)))))
((gd ((decide (v3.size + ((v1.extract (Int.toNat v4) (Int.toNat (w64 (v4 + 1))))).size ≤ 9223372036854775807)))
(rec_ v0 v1 v2 ((v3 ++ (v1.extract (Int.toNat v4) (Int.toNat (w64 (v4 + 1)))))) ((w64 (v4 + 1))) v5 v6)))))))))))
(zj12 N v0 v3 fun r6 r7 r8 =>
(cond (!r8)
(k0 false 0 0)
((cond ((r6 != r7))
(k0 false 0 0)
((gd ((decide (0 ≤ r6)))
(rec_ v0 v1 ((bits .or .i64 v2 (shlI .i64 1 r6))) ByteArray.empty ((w64 (v4 + 1))) v5 v6)))))))))))))
(zj12 N v0 v3 fun r9 r10 r11 =>
(cond (!r11)
(k0 false 0 0)
((cond ((r9 != r10))
(k0 false 0 0)
((gd ((decide (0 ≤ r9)))
(rec_ v0 v1 ((bits .or .i64 v2 (shlI .i64 1 r9))) ByteArray.empty ((w64 (v4 + 1))) v5 v6)))))))))
(k1 v0 v1 v2 v5 v6)))
(k1 v0 v1 v2 v5 v6))
def zj23 {β : Type} (N : Nat)  : Nat → Int → ByteArray → Int → ByteArray → Int → Int → Int → (Bool → Int → Int → Option β) → (Int → ByteArray → Int → Int → Int → Option β) → Option β
  | 0, _, _, _, _, _, _, _, _, _ => none
  | F + 1, v0, v1, v2, v3, v4, v5, v6, k0, k1 => zj22 N  v0 v1 v2 v3 v4 v5 v6 (fun v0 v1 v2 v3 v4 v5 v6 => zj23 N  F v0 v1 v2 v3 v4 v5 v6 k0 k1) k0 k1
def zj24 {β : Type} (N : Nat) (a0 : Int) (a1 : ByteArray) (k : Int → Int → Bool → Option β) : Option β :=
zj0 N a0 0 5 fun r5 =>
(cond (!r5)
(k 0 0 false)
((cond ((decide ((a1.size : Int) > 200)))
(k 0 0 false)
(zj23 N  N a0 a1 0 ByteArray.empty 0 0 0 (fun e12_0 e12_1 e12_2 =>
k e12_1 e12_2 e12_0) (fun e13_0 e13_1 e13_2 e13_3 e13_4 =>
zj17 N e13_0 e13_2 fun r14 =>
zj21 N e13_0 r14 fun r15 =>
(cond ((!(r15.toList == e13_1.toList)))
(k 0 0 false)
(k e13_0 r14 true)))))))
/-! loop.example/g03403/spec.l28Terms -/
def zj25 {β : Type} (N : Nat)  (v0 : Int) (v1 : List (Int × Int)) (v2 : Int) (rec_ : Int → List (Int × Int) → Int → Option β) (k0 : Bool → Option β) (k1 : Int → List (Int × Int) → Option β) : Option β :=
(cond ((decide (v2 < (v1.length : Int))))
((gd ((decide (0 ≤ v2)))
((gd ((decide (v2 < (v1.length : Int))))
(zj6 N v0 ((rd (0, 0) v1 v2).1) ((rd (0, 0) v1 v2).2) fun r3 =>
(cond (!r3)
(k0 false)
(rec_ v0 v1 ((w64 (v2 + 1))))))))))
(k1 v0 v1))
def zj26 {β : Type} (N : Nat)  : Nat → Int → List (Int × Int) → Int → (Bool → Option β) → (Int → List (Int × Int) → Option β) → Option β
  | 0, _, _, _, _, _ => none
  | F + 1, v0, v1, v2, k0, k1 => zj25 N  v0 v1 v2 (fun v0 v1 v2 => zj26 N  F v0 v1 v2 k0 k1) k0 k1
def zj27 {β : Type} (N : Nat) (a0 : Int) (a1 : List (Int × Int)) (k : Bool → Option β) : Option β :=
zj26 N  N a0 a1 0 (fun e4_0 =>
k e4_0) (fun e5_0 e5_1 =>
zj0 N e5_0 0 5 fun r6 =>
(cond r6
(k ((decide ((e5_1.length : Int) ≤ 40))))
(k false)))
/-! loop.example/g03403/spec.ParseSum -/
def zj28 {β : Type} (N : Nat)  (v0 : Int) (v1 : ByteArray) (v2 : ByteArray) (v3 : Int) (v4 : List (Int × Int)) (rec_ : Int → ByteArray → ByteArray → Int → List (Int × Int) → Option β) (k0 : Bool → List (Int × Int) → Option β) (k1 : Int → ByteArray → List (Int × Int) → Option β) : Option β :=
(cond ((decide (v3 ≤ (v1.size : Int))))
((cond ((decide ((v1.size : Int) ≤ 200)))
((cond ((decide (v3 < (v1.size : Int))))
((gd ((decide (0 ≤ v3)))
((gd ((decide (v3 < (v1.size : Int))))
((cond (((bt v1 v3) != 124))
((gd ((decide (0 ≤ (w64 (v3 + 1)))))
((gd ((decide ((w64 (v3 + 1)) ≤ (v1.size : Int))))
((gd ((decide (0 ≤ v3)))
((gd ((decide (v3 ≤ (w64 (v3 + 1)))))
((gd ((decide (v2.size + ((v1.extract (Int.toNat v3) (Int.toNat (w64 (v3 + 1))))).size ≤ 9223372036854775807)))
(rec_ v0 v1 ((v2 ++ (v1.extract (Int.toNat v3) (Int.toNat (w64 (v3 + 1)))))) ((w64 (v3 + 1))) v4)))))))))))
(zj12 N v0 v2 fun r5 r6 r7 =>
(cond (!r7)
(k0 false (([] : List (Int × Int))))
((gd ((decide ((v4.length + ((([] : List (Int × Int)) ++ [(r5, r6)])).length) * 16 ≤ 140737488355328)))
(rec_ v0 v1 ByteArray.empty ((w64 (v3 + 1))) ((v4 ++ (([] : List (Int × Int)) ++ [(r5, r6)]))))))))))))))
(zj12 N v0 v2 fun r8 r9 r10 =>
(cond (!r10)
(k0 false (([] : List (Int × Int))))
((gd ((decide ((v4.length + ((([] : List (Int × Int)) ++ [(r8, r9)])).length) * 16 ≤ 140737488355328)))
(rec_ v0 v1 ByteArray.empty ((w64 (v3 + 1))) ((v4 ++ (([] : List (Int × Int)) ++ [(r8, r9)]))))))))))
(k1 v0 v1 v4)))
(k1 v0 v1 v4))
def zj29 {β : Type} (N : Nat)  : Nat → Int → ByteArray → ByteArray → Int → List (Int × Int) → (Bool → List (Int × Int) → Option β) → (Int → ByteArray → List (Int × Int) → Option β) → Option β
  | 0, _, _, _, _, _, _, _ => none
  | F + 1, v0, v1, v2, v3, v4, k0, k1 => zj28 N  v0 v1 v2 v3 v4 (fun v0 v1 v2 v3 v4 => zj29 N  F v0 v1 v2 v3 v4 k0 k1) k0 k1
def zj30 {β : Type} (N : Nat) (a0 : Int) (a1 : ByteArray) (k : List (Int × Int) → Bool → Option β) : Option β :=
(cond ((a1.toList == ((strOf [48])).toList))
(zj0 N a0 0 5 fun r4 =>
k (([] : List (Int × Int))) r4)
(zj29 N  N a0 a1 ByteArray.empty 0 (([] : List (Int × Int))) (fun e11_0 e11_1 =>
k e11_1 e11_0) (fun e12_0 e12_1 e12_2 =>
(cond ((decide ((e12_1.size : Int) > 200)))
(k (([] : List (Int × Int))) false)
(zj27 N e12_0 e12_2 fun r13 =>
(cond (!r13)
(k (([] : List (Int × Int))) false)
(k e12_2 true)))))))
/-! loop.example/g03403/spec.l6Word -/
def zj31 {β : Type} (N : Nat)  (v0 : Int) (v1 : Int) (v2 : Int) (v3 : Int) (v4 : Int) (rec_ : Int → Int → Int → Int → Int → Option β) (k0 : Int → Option β) : Option β :=
(gd ((decide (0 ≤ v0)))
((cond ((decide (v2 < (shlI .i64 1 v0))))
((cond (((bits .and .i64 v2 v3) == v4))
((gd ((decide (0 ≤ v2)))
(rec_ v0 ((bits .or .i64 v1 (shlI .i64 1 v2))) ((w64 (v2 + 1))) v3 v4)))
(rec_ v0 v1 ((w64 (v2 + 1))) v3 v4)))
(k0 v1))))
def zj32 {β : Type} (N : Nat)  : Nat → Int → Int → Int → Int → Int → (Int → Option β) → Option β
  | 0, _, _, _, _, _, _ => none
  | F + 1, v0, v1, v2, v3, v4, k0 => zj31 N  v0 v1 v2 v3 v4 (fun v0 v1 v2 v3 v4 => zj32 N  F v0 v1 v2 v3 v4 k0) k0
def zj33 {β : Type} (N : Nat) (a0 : Int) (a1 : Int) (a2 : Int) (k : Int → Option β) : Option β :=
zj32 N  N a0 0 0 a1 a2 (fun e4_0 =>
k e4_0)
/-! loop.example/g03403/spec.TableOfTerms -/
def zj34 {β : Type} (N : Nat)  (v0 : Int) (v1 : List (Int × Int)) (v2 : Int) (v3 : Int) (v4 : Int) (v5 : Int) (rec_ : Int → List (Int × Int) → Int → Int → Int → Int → Option β) (k0 : Bool → Int → Int → Option β) (k1 : Int → Int → Int → Int → Option β) : Option β :=
(cond ((decide (v3 < (v1.length : Int))))
((gd ((decide (0 ≤ v3)))
((gd ((decide (v3 < (v1.length : Int))))
(zj6 N v0 ((rd (0, 0) v1 v3).1) ((rd (0, 0) v1 v3).2) fun r5 =>
(cond (!r5)
(k0 false 0 0)
((gd ((decide (0 ≤ v3)))
((gd ((decide (v3 < (v1.length : Int))))
(zj33 N v0 ((rd (0, 0) v1 v3).1) ((rd (0, 0) v1 v3).2) fun r6 =>
rec_ v0 v1 ((bits .or .i64 v2 r6)) ((w64 (v3 + 1))) v4 v5)))))))))))
(k1 v0 v2 v4 v5))
def zj35 {β : Type} (N : Nat)  : Nat → Int → List (Int × Int) → Int → Int → Int → Int → (Bool → Int → Int → Option β) → (Int → Int → Int → Int → Option β) → Option β
  | 0, _, _, _, _, _, _, _, _ => none
  | F + 1, v0, v1, v2, v3, v4, v5, k0, k1 => zj34 N  v0 v1 v2 v3 v4 v5 (fun v0 v1 v2 v3 v4 v5 => zj35 N  F v0 v1 v2 v3 v4 v5 k0 k1) k0 k1
def zj36 {β : Type} (N : Nat) (a0 : Int) (a1 : List (Int × Int)) (k : Int → Int → Bool → Option β) : Option β :=
zj35 N  N a0 a1 0 0 0 0 (fun e7_0 e7_1 e7_2 =>
k e7_1 e7_2 e7_0) (fun e8_0 e8_1 e8_2 e8_3 =>
zj0 N e8_0 0 5 fun r9 =>
(cond (!r9)
(k 0 0 false)
(k e8_0 e8_1 true)))
/-! loop.example/g03403/spec.l7End -/
def zj37 {β : Type} (N : Nat) (self : ByteArray → Int → Int → (Int → Option β) → Option β) (a0 : ByteArray) (a1 : Int) (a2 : Int) (k : Int → Option β) : Option β :=
(cond ((decide (a1 ≥ (a0.size : Int))))
(k (-1))
((gd ((decide (0 ≤ a1)))
((gd ((decide (a1 < (a0.size : Int))))
((cond (((bt a0 a1) == 48))
(k ((w64 (a1 + 1))))
((gd ((decide (0 ≤ a1)))
((gd ((decide (a1 < (a0.size : Int))))
((cond (((bt a0 a1) == 49))
(k ((w64 (a1 + 1))))
((gd ((decide (0 ≤ a1)))
((gd ((decide (a1 < (a0.size : Int))))
(zj0 N ((w64 ((w64 ((bt a0 a1))) - 97))) 0 4 fun r4 =>
(cond (!r4)
(k (-1))
((gd ((decide (0 ≤ (w64 ((w64 ((bt a0 a1))) - 97)))))
((cond (((bits .and .i64 (shrI .i64 a2 (w64 ((w64 ((bt a0 a1))) - 97))) 1) == 1))
(k (-1))
((gd ((decide (0 ≤ (w64 ((w64 ((bt a0 a1))) - 97)))))
(self a0 ((w64 (a1 + 1))) ((bits .or .i64 a2 (shlI .i64 1 (w64 ((w64 ((bt a0 a1))) - 97))))) fun r5 =>
(cond ((decide (r5 < 0)))
(k (-1))
((gd ((decide (0 ≤ (w64 ((w64 ((bt a0 a1))) - 97)))))
(self a0 r5 ((bits .or .i64 a2 (shlI .i64 1 (w64 ((w64 ((bt a0 a1))) - 97))))) fun r6 =>
k r6))))))))))))))))))))))))))))))
def zj38 {β : Type} (N : Nat) : Nat → ByteArray → Int → Int → (Int → Option β) → Option β
  | 0, _, _, _, _ => none
  | F + 1, a0, a1, a2, k => zj37 N (zj38 N F) a0 a1 a2 k
def zj39 {β : Type} (N : Nat) (a0 : ByteArray) (a1 : Int) (a2 : Int) (k : Int → Option β) : Option β := zj38 N N a0 a1 a2 k
/-! loop.example/g03403/spec.IsTree -/
def zj40 {β : Type} (N : Nat) (a0 : ByteArray) (k : Bool → Option β) : Option β :=
(cond ((decide ((a0.size : Int) ≤ 63)))
((cond ((decide ((a0.size : Int) > 0)))
(zj39 N a0 0 0 fun r2 =>
k ((r2 == (a0.size : Int))))
(k false)))
(k false))
/-! loop.example/g03403/spec.l7Skip -/
def zj41 {β : Type} (N : Nat) (self : ByteArray → Int → (Int → Option β) → Option β) (a0 : ByteArray) (a1 : Int) (k : Int → Option β) : Option β :=
(gd ((decide (0 ≤ a1)))
((gd ((decide (a1 < (a0.size : Int))))
((cond (((bt a0 a1) == 48))
(k ((w64 (a1 + 1))))
((gd ((decide (0 ≤ a1)))
((gd ((decide (a1 < (a0.size : Int))))
((cond (((bt a0 a1) == 49))
(k ((w64 (a1 + 1))))
(self a0 ((w64 (a1 + 1))) fun r3 =>
self a0 r3 fun r4 =>
k r4))))))))))))
def zj42 {β : Type} (N : Nat) : Nat → ByteArray → Int → (Int → Option β) → Option β
  | 0, _, _, _ => none
  | F + 1, a0, a1, k => zj41 N (zj42 N F) a0 a1 k
def zj43 {β : Type} (N : Nat) (a0 : ByteArray) (a1 : Int) (k : Int → Option β) : Option β := zj42 N N a0 a1 k
/-! loop.example/g03403/spec.l7Run -/
def zj44 {β : Type} (N : Nat)  (v0 : ByteArray) (v1 : Int) (v2 : Int) (v3 : Int) (rec_ : ByteArray → Int → Int → Int → Option β) (k0 : ByteArray → Int → Int → Option β) : Option β :=
(gd ((decide (0 ≤ v2)))
((gd ((decide (v2 < (v0.size : Int))))
((cond (((bt v0 v2) != 48))
((gd ((decide (0 ≤ v2)))
((gd ((decide (v2 < (v0.size : Int))))
((cond (((bt v0 v2) != 49))
((gd ((decide (0 ≤ v2)))
((gd ((decide (v2 < (v0.size : Int))))
((gd ((decide (0 ≤ (w8 ((bt v0 v2) - 97)))))
((cond (((bits .and .i64 (shrI .i64 v1 (w8 ((bt v0 v2) - 97))) 1) == 1))
(zj43 N v0 ((w64 (v2 + 1))) fun r4 =>
rec_ v0 v1 r4 ((w64 (v3 + 1))))
(rec_ v0 v1 ((w64 (v2 + 1))) ((w64 (v3 + 1))))))))))))
(k0 v0 v2 v3)))))))
(k0 v0 v2 v3))))))
def zj45 {β : Type} (N : Nat)  : Nat → ByteArray → Int → Int → Int → (ByteArray → Int → Int → Option β) → Option β
  | 0, _, _, _, _, _ => none
  | F + 1, v0, v1, v2, v3, k0 => zj44 N  v0 v1 v2 v3 (fun v0 v1 v2 v3 => zj45 N  F v0 v1 v2 v3 k0) k0
def zj46 {β : Type} (N : Nat) (a0 : ByteArray) (a1 : Int) (k : Int → Int → Option β) : Option β :=
zj45 N  N a0 a1 0 0 (fun e5_0 e5_1 e5_2 =>
(gd ((decide (0 ≤ e5_1)))
((gd ((decide (e5_1 < (e5_0.size : Int))))
(k ((w64 ((w8 ((bt e5_0 e5_1) - 48))))) e5_2)))))
/-! loop.example/g03403/spec.TableOfTree -/
def zj47 {β : Type} (N : Nat)  (v0 : ByteArray) (v1 : Int) (v2 : Int) (v3 : Int) (v4 : Int) (rec_ : ByteArray → Int → Int → Int → Int → Option β) (k0 : Bool → Int → Int → Option β) (k1 : ByteArray → Int → Int → Int → Option β) : Option β :=
(cond ((decide (v2 < (v0.size : Int))))
((gd ((decide (0 ≤ v2)))
((gd ((decide (v2 < (v0.size : Int))))
((cond ((decide ((bt v0 v2) ≥ 97)))
((gd ((decide (0 ≤ v2)))
((gd ((decide (v2 < (v0.size : Int))))
((cond ((decide ((w64 ((w8 ((bt v0 v2) - 97)))) ≥ v1)))
(k0 false 0 0)
(rec_ v0 v1 ((w64 (v2 + 1))) v3 v4)))))))
(rec_ v0 v1 ((w64 (v2 + 1))) v3 v4)))))))
(k1 v0 v1 v3 v4))
def zj48 {β : Type} (N : Nat)  : Nat → ByteArray → Int → Int → Int → Int → (Bool → Int → Int → Option β) → (ByteArray → Int → Int → Int → Option β) → Option β
  | 0, _, _, _, _, _, _, _ => none
  | F + 1, v0, v1, v2, v3, v4, k0, k1 => zj47 N  v0 v1 v2 v3 v4 (fun v0 v1 v2 v3 v4 => zj48 N  F v0 v1 v2 v3 v4 k0 k1) k0 k1
def zj49 {β : Type} (N : Nat)  (v0 : ByteArray) (v1 : Int) (v2 : Int) (v3 : Int) (v4 : Int) (v5 : Int) (rec_ : ByteArray → Int → Int → Int → Int → Int → Option β) (k0 : Int → Int → Int → Int → Option β) : Option β :=
(gd ((decide (0 ≤ v1)))
((cond ((decide (v3 < (shlI .i64 1 v1))))
(zj46 N v0 v3 fun r9 r10 =>
(gd ((decide (0 ≤ v3)))
(rec_ v0 v1 ((bits .or .i64 v2 (shlI .i64 r9 v3))) ((w64 (v3 + 1))) v4 v5)))
(k0 v1 v2 v4 v5))))
def zj50 {β : Type} (N : Nat)  : Nat → ByteArray → Int → Int → Int → Int → Int → (Int → Int → Int → Int → Option β) → Option β
  | 0, _, _, _, _, _, _, _ => none
  | F + 1, v0, v1, v2, v3, v4, v5, k0 => zj49 N  v0 v1 v2 v3 v4 v5 (fun v0 v1 v2 v3 v4 v5 => zj50 N  F v0 v1 v2 v3 v4 v5 k0) k0
def zj51 {β : Type} (N : Nat) (a0 : ByteArray) (a1 : Int) (k : Int → Int → Bool → Option β) : Option β :=
zj40 N a0 fun r5 =>
(cond (!r5)
(k 0 0 false)
(zj0 N a1 0 5 fun r6 =>
(cond (!r6)
(k 0 0 false)
(zj48 N  N a0 a1 0 0 0 (fun e7_0 e7_1 e7_2 =>
k e7_1 e7_2 e7_0) (fun e8_0 e8_1 e8_2 e8_3 =>
zj50 N  N e8_0 e8_1 0 0 e8_2 e8_3 (fun e11_0 e11_1 e11_2 e11_3 =>
k e11_0 e11_1 true))))))
/-! loop.example/g03403/spec.l5End -/
def zj52 {β : Type} (N : Nat) (self : ByteArray → Int → (Int → Option β) → Option β) (a0 : ByteArray) (a1 : Int) (k : Int → Option β) : Option β :=
(cond ((decide (a1 ≥ (a0.size : Int))))
(k (-1))
((gd ((decide (0 ≤ a1)))
((gd ((decide (a1 < (a0.size : Int))))
((cond (((bt a0 a1) == 97))
((cond (((bt a0 a1) == 97))
(k ((w64 (a1 + 1))))
((cond (((bt a0 a1) == 33))
(self a0 ((w64 (a1 + 1))) fun r3 =>
k r3)
((cond (((bt a0 a1) == 38))
((cond (((bt a0 a1) == 38))
(self a0 ((w64 (a1 + 1))) fun r4 =>
(cond ((decide (r4 < 0)))
(k (-1))
(self a0 r4 fun r5 =>
k r5)))
(k (-1))))
((cond (((bt a0 a1) == 124))
((cond (((bt a0 a1) == 124))
(self a0 ((w64 (a1 + 1))) fun r6 =>
(cond ((decide (r6 < 0)))
(k (-1))
(self a0 r6 fun r7 =>
k r7)))
(k (-1))))
((cond (((bt a0 a1) == 94))
(self a0 ((w64 (a1 + 1))) fun r8 =>
(cond ((decide (r8 < 0)))
(k (-1))
(self a0 r8 fun r9 =>
k r9)))
(k (-1))))))))))))
((cond (((bt a0 a1) == 98))
((cond (((bt a0 a1) == 98))
(k ((w64 (a1 + 1))))
((cond (((bt a0 a1) == 33))
(self a0 ((w64 (a1 + 1))) fun r10 =>
k r10)
((cond (((bt a0 a1) == 38))
((cond (((bt a0 a1) == 38))
(self a0 ((w64 (a1 + 1))) fun r11 =>
(cond ((decide (r11 < 0)))
(k (-1))
(self a0 r11 fun r12 =>
k r12)))
(k (-1))))
((cond (((bt a0 a1) == 124))
((cond (((bt a0 a1) == 124))
(self a0 ((w64 (a1 + 1))) fun r13 =>
(cond ((decide (r13 < 0)))
(k (-1))
(self a0 r13 fun r14 =>
k r14)))
(k (-1))))
((cond (((bt a0 a1) == 94))
(self a0 ((w64 (a1 + 1))) fun r15 =>
(cond ((decide (r15 < 0)))
(k (-1))
(self a0 r15 fun r16 =>
k r16)))
(k (-1))))))))))))
((cond (((bt a0 a1) == 99))
((cond (((bt a0 a1) == 99))
(k ((w64 (a1 + 1))))
((cond (((bt a0 a1) == 33))
(self a0 ((w64 (a1 + 1))) fun r17 =>
k r17)
((cond (((bt a0 a1) == 38))
((cond (((bt a0 a1) == 38))
(self a0 ((w64 (a1 + 1))) fun r18 =>
(cond ((decide (r18 < 0)))
(k (-1))
(self a0 r18 fun r19 =>
k r19)))
(k (-1))))
((cond (((bt a0 a1) == 124))
((cond (((bt a0 a1) == 124))
(self a0 ((w64 (a1 + 1))) fun r20 =>
(cond ((decide (r20 < 0)))
(k (-1))
(self a0 r20 fun r21 =>
k r21)))
(k (-1))))
((cond (((bt a0 a1) == 94))
(self a0 ((w64 (a1 + 1))) fun r22 =>
(cond ((decide (r22 < 0)))
(k (-1))
(self a0 r22 fun r23 =>
k r23)))
(k (-1))))))))))))
((cond (((bt a0 a1) == 100))
((cond (((bt a0 a1) == 100))
(k ((w64 (a1 + 1))))
((cond (((bt a0 a1) == 33))
(self a0 ((w64 (a1 + 1))) fun r24 =>
k r24)
((cond (((bt a0 a1) == 38))
((cond (((bt a0 a1) == 38))
(self a0 ((w64 (a1 + 1))) fun r25 =>
(cond ((decide (r25 < 0)))
(k (-1))
(self a0 r25 fun r26 =>
k r26)))
(k (-1))))
((cond (((bt a0 a1) == 124))
((cond (((bt a0 a1) == 124))
(self a0 ((w64 (a1 + 1))) fun r27 =>
(cond ((decide (r27 < 0)))
(k (-1))
(self a0 r27 fun r28 =>
k r28)))
(k (-1))))
((cond (((bt a0 a1) == 94))
(self a0 ((w64 (a1 + 1))) fun r29 =>
(cond ((decide (r29 < 0)))
(k (-1))
(self a0 r29 fun r30 =>
k r30)))
(k (-1))))))))))))
((cond (((bt a0 a1) == 101))
((cond (((bt a0 a1) == 101))
(k ((w64 (a1 + 1))))
((cond (((bt a0 a1) == 33))
(self a0 ((w64 (a1 + 1))) fun r31 =>
k r31)
((cond (((bt a0 a1) == 38))
((cond (((bt a0 a1) == 38))
(self a0 ((w64 (a1 + 1))) fun r32 =>
(cond ((decide (r32 < 0)))
(k (-1))
(self a0 r32 fun r33 =>
k r33)))
(k (-1))))
((cond (((bt a0 a1) == 124))
((cond (((bt a0 a1) == 124))
(self a0 ((w64 (a1 + 1))) fun r34 =>
(cond ((decide (r34 < 0)))
(k (-1))
(self a0 r34 fun r35 =>
k r35)))
(k (-1))))
((cond (((bt a0 a1) == 94))
(self a0 ((w64 (a1 + 1))) fun r36 =>
(cond ((decide (r36 < 0)))
(k (-1))
(self a0 r36 fun r37 =>
k r37)))
(k (-1))))))))))))
((cond (((bt a0 a1) == 48))
((cond (((bt a0 a1) == 48))
(k ((w64 (a1 + 1))))
((cond (((bt a0 a1) == 33))
(self a0 ((w64 (a1 + 1))) fun r38 =>
k r38)
((cond (((bt a0 a1) == 38))
((cond (((bt a0 a1) == 38))
(self a0 ((w64 (a1 + 1))) fun r39 =>
(cond ((decide (r39 < 0)))
(k (-1))
(self a0 r39 fun r40 =>
k r40)))
(k (-1))))
((cond (((bt a0 a1) == 124))
((cond (((bt a0 a1) == 124))
(self a0 ((w64 (a1 + 1))) fun r41 =>
(cond ((decide (r41 < 0)))
(k (-1))
(self a0 r41 fun r42 =>
k r42)))
(k (-1))))
((cond (((bt a0 a1) == 94))
(self a0 ((w64 (a1 + 1))) fun r43 =>
(cond ((decide (r43 < 0)))
(k (-1))
(self a0 r43 fun r44 =>
k r44)))
(k (-1))))))))))))
((cond (((bt a0 a1) == 49))
(k ((w64 (a1 + 1))))
((cond (((bt a0 a1) == 33))
(self a0 ((w64 (a1 + 1))) fun r45 =>
k r45)
((cond (((bt a0 a1) == 38))
((cond (((bt a0 a1) == 38))
(self a0 ((w64 (a1 + 1))) fun r46 =>
(cond ((decide (r46 < 0)))
(k (-1))
(self a0 r46 fun r47 =>
k r47)))
(k (-1))))
((cond (((bt a0 a1) == 124))
((cond (((bt a0 a1) == 124))
(self a0 ((w64 (a1 + 1))) fun r48 =>
(cond ((decide (r48 < 0)))
(k (-1))
(self a0 r48 fun r49 =>
k r49)))
(k (-1))))
((cond (((bt a0 a1) == 94))
(self a0 ((w64 (a1 + 1))) fun r50 =>
(cond ((decide (r50 < 0)))
(k (-1))
(self a0 r50 fun r51 =>
k r51)))
(k (-1)))))))))))))))))))))))))))))
def zj53 {β : Type} (N : Nat) : Nat → ByteArray → Int → (Int → Option β) → Option β
  | 0, _, _, _ => none
  | F + 1, a0, a1, k => zj52 N (zj53 N F) a0 a1 k
def zj54 {β : Type} (N : Nat) (a0 : ByteArray) (a1 : Int) (k : Int → Option β) : Option β := zj53 N N a0 a1 k
/-! loop.example/g03403/spec.IsFormula -/
def zj55 {β : Type} (N : Nat) (a0 : ByteArray) (k : Bool → Option β) : Option β :=
(cond ((decide ((a0.size : Int) ≤ 60)))
((cond ((decide ((a0.size : Int) > 0)))
(zj54 N a0 0 fun r2 =>
k ((r2 == (a0.size : Int))))
(k false)))
(k false))
/-! loop.example/g03403/spec.l5Value -/
def zj56 {β : Type} (N : Nat) (self : ByteArray → Int → Int → (Bool → Option β) → Option β) (a0 : ByteArray) (a1 : Int) (a2 : Int) (k : Bool → Option β) : Option β :=
(gd ((decide (0 ≤ a1)))
((gd ((decide (a1 < (a0.size : Int))))
((cond (((bt a0 a1) == 48))
(k false)
((cond (((bt a0 a1) == 49))
(k true)
((cond (((bt a0 a1) == 33))
(self a0 ((w64 (a1 + 1))) a2 fun r4 =>
k (!r4))
((cond (((bt a0 a1) == 38))
(self a0 ((w64 (a1 + 1))) a2 fun r5 =>
(cond r5
(zj54 N a0 ((w64 (a1 + 1))) fun r6 =>
self a0 r6 a2 fun r7 =>
k r7)
(k false)))
((cond (((bt a0 a1) == 124))
(self a0 ((w64 (a1 + 1))) a2 fun r8 =>
(cond r8
(k true)
(zj54 N a0 ((w64 (a1 + 1))) fun r9 =>
self a0 r9 a2 fun r10 =>
k r10)))
((cond (((bt a0 a1) == 94))
(self a0 ((w64 (a1 + 1))) a2 fun r11 =>
zj54 N a0 ((w64 (a1 + 1))) fun r12 =>
self a0 r12 a2 fun r13 =>
k ((!(r11 == r13))))
((gd ((decide (0 ≤ a1)))
((gd ((decide (a1 < (a0.size : Int))))
((gd ((decide (0 ≤ (w8 ((bt a0 a1) - 97)))))
(k (((bits .and .i64 (shrI .i64 a2 (w8 ((bt a0 a1) - 97))) 1) == 1))))))))))))))))))))))))
def zj57 {β : Type} (N : Nat) : Nat → ByteArray → Int → Int → (Bool → Option β) → Option β
  | 0, _, _, _, _ => none
  | F + 1, a0, a1, a2, k => zj56 N (zj57 N F) a0 a1 a2 k
def zj58 {β : Type} (N : Nat) (a0 : ByteArray) (a1 : Int) (a2 : Int) (k : Bool → Option β) : Option β := zj57 N N a0 a1 a2 k
/-! loop.example/g03403/spec.TableOfFormula -/
def zj59 {β : Type} (N : Nat)  (v0 : ByteArray) (v1 : Int) (v2 : Int) (v3 : Int) (v4 : Int) (rec_ : ByteArray → Int → Int → Int → Int → Option β) (k0 : Bool → Int → Int → Option β) (k1 : ByteArray → Int → Int → Int → Option β) : Option β :=
(cond ((decide (v2 < (v0.size : Int))))
((gd ((decide (0 ≤ v2)))
((gd ((decide (v2 < (v0.size : Int))))
((cond ((decide ((bt v0 v2) ≥ 97)))
((gd ((decide (0 ≤ v2)))
((gd ((decide (v2 < (v0.size : Int))))
((cond ((decide ((bt v0 v2) ≤ 101)))
((gd ((decide (0 ≤ v2)))
((gd ((decide (v2 < (v0.size : Int))))
((cond ((decide ((w64 ((w8 ((bt v0 v2) - 97)))) ≥ v1)))
(k0 false 0 0)
(rec_ v0 v1 ((w64 (v2 + 1))) v3 v4)))))))
(rec_ v0 v1 ((w64 (v2 + 1))) v3 v4)))))))
(rec_ v0 v1 ((w64 (v2 + 1))) v3 v4)))))))
(k1 v0 v1 v3 v4))
def zj60 {β : Type} (N : Nat)  : Nat → ByteArray → Int → Int → Int → Int → (Bool → Int → Int → Option β) → (ByteArray → Int → Int → Int → Option β) → Option β
  | 0, _, _, _, _, _, _, _ => none
  | F + 1, v0, v1, v2, v3, v4, k0, k1 => zj59 N  v0 v1 v2 v3 v4 (fun v0 v1 v2 v3 v4 => zj60 N  F v0 v1 v2 v3 v4 k0 k1) k0 k1
def zj61 {β : Type} (N : Nat)  (v0 : ByteArray) (v1 : Int) (v2 : Int) (v3 : Int) (v4 : Int) (v5 : Int) (rec_ : ByteArray → Int → Int → Int → Int → Int → Option β) (k0 : Int → Int → Int → Int → Option β) : Option β :=
(gd ((decide (0 ≤ v1)))
((cond ((decide (v3 < (shlI .i64 1 v1))))
(zj58 N v0 0 v3 fun r9 =>
(cond r9
((gd ((decide (0 ≤ v3)))
(rec_ v0 v1 ((bits .or .i64 v2 (shlI .i64 1 v3))) ((w64 (v3 + 1))) v4 v5)))
(rec_ v0 v1 v2 ((w64 (v3 + 1))) v4 v5)))
(k0 v1 v2 v4 v5))))
def zj62 {β : Type} (N : Nat)  : Nat → ByteArray → Int → Int → Int → Int → Int → (Int → Int → Int → Int → Option β) → Option β
  | 0, _, _, _, _, _, _, _ => none
  | F + 1, v0, v1, v2, v3, v4, v5, k0 => zj61 N  v0 v1 v2 v3 v4 v5 (fun v0 v1 v2 v3 v4 v5 => zj62 N  F v0 v1 v2 v3 v4 v5 k0) k0
def zj63 {β : Type} (N : Nat) (a0 : ByteArray) (a1 : Int) (k : Int → Int → Bool → Option β) : Option β :=
zj55 N a0 fun r5 =>
(cond (!r5)
(k 0 0 false)
(zj0 N a1 0 5 fun r6 =>
(cond (!r6)
(k 0 0 false)
(zj60 N  N a0 a1 0 0 0 (fun e7_0 e7_1 e7_2 =>
k e7_1 e7_2 e7_0) (fun e8_0 e8_1 e8_2 e8_3 =>
zj62 N  N e8_0 e8_1 0 0 e8_2 e8_3 (fun e10_0 e10_1 e10_2 e10_3 =>
k e10_0 e10_1 true))))))
/-! loop.example/g03403/spec.ReadAs -/
def zj64 {β : Type} (N : Nat) (a0 : ByteArray) (a1 : Int) (a2 : ByteArray) (k : Int → Int → Bool → Option β) : Option β :=
zj0 N a1 0 4 fun r6 =>
(cond (!r6)
(k 0 0 false)
((cond ((a0.toList == ((strOf [116, 97, 98, 108, 101])).toList))
(zj5 N a2 fun r7 r8 r9 =>
(cond (!r9)
(k 0 0 false)
((cond ((r7 != a1))
(k 0 0 false)
(k r7 r8 true)))))
((cond ((a0.toList == ((strOf [97, 110, 102])).toList))
(zj24 N a1 a2 fun r10 r11 r12 =>
k r10 r11 r12)
((cond ((a0.toList == ((strOf [115, 117, 109])).toList))
(zj30 N a1 a2 fun r13 r14 =>
(cond (!r14)
(k 0 0 false)
(zj36 N a1 r13 fun r15 r16 r17 =>
k r15 r16 r17)))
((cond ((a0.toList == ((strOf [116, 114, 101, 101])).toList))
(zj51 N a2 a1 fun r18 r19 r20 =>
k r18 r19 r20)
((cond ((a0.toList == ((strOf [102, 111, 114, 109, 117, 108, 97])).toList))
(zj63 N a2 a1 fun r21 r22 r23 =>
k r21 r22 r23)
(k 0 0 false))))))))))))
/-! loop.example/g03403/impl.ParseTable$1 -/
def zj65 {β : Type} (N : Nat) (a0 : Int) (c0 : ByteArray) (k : Bool → Option β) : Option β :=
(gd ((decide (0 ≤ a0)))
((gd ((decide (a0 < (c0.size : Int))))
(k (((bt c0 a0) == 49))))))
/-! (loop.example/g03403/impl.Table).size -/
def zj66 {β : Type} (N : Nat) (a0 : Int) (a1 : Int) (k : Int → Option β) : Option β :=
(gd ((decide (0 ≤ a0)))
(k ((shlI .i64 1 a0))))
/-! (loop.example/g03403/impl.Table).at -/
def zj67 {β : Type} (N : Nat) (a0 : Int) (a1 : Int) (a2 : Int) (k : Int → Option β) : Option β :=
(gd ((decide (0 ≤ a2)))
(k ((bits .and .i64 (shrI .i64 a1 a2) 1))))
/-! (loop.example/g03403/impl.Table).anf$1 -/
def zj68 {β : Type} (N : Nat)  (v0 : Int) (v1 : Int) (v2 : Int) (v3 : Int) (v4 : Int) (v5 : Int) (rec_ : Int → Int → Int → Int → Int → Int → Option β) (k0 : Int → Option β) : Option β :=
(cond ((decide (v5 < v4)))
((cond (((bits .andNot .i64 v5 v0) == 0))
(zj67 N v1 v2 v5 fun r3 =>
rec_ v0 v1 v2 ((bits .xor .i64 v3 r3)) v4 ((w64 (v5 + 1))))
(rec_ v0 v1 v2 v3 v4 ((w64 (v5 + 1))))))
(k0 v3))
def zj69 {β : Type} (N : Nat)  : Nat → Int → Int → Int → Int → Int → Int → (Int → Option β) → Option β
  | 0, _, _, _, _, _, _, _ => none
  | F + 1, v0, v1, v2, v3, v4, v5, k0 => zj68 N  v0 v1 v2 v3 v4 v5 (fun v0 v1 v2 v3 v4 v5 => zj69 N  F v0 v1 v2 v3 v4 v5 k0) k0
def zj70 {β : Type} (N : Nat) (a0 : Int) (c0 : Int) (c1 : Int) (k : Bool → Option β) : Option β :=
zj66 N c0 c1 fun r2 =>
zj69 N  N a0 c0 c1 0 r2 0 (fun e4_0 =>
k ((e4_0 == 1)))
/-! loop.example/g03403/impl.isBits -/
def zj71 {β : Type} (N : Nat) (a0 : Int) (k : Bool → Option β) : Option β :=
(cond ((decide (a0 ≥ 0)))
(k ((decide (a0 ≤ 5))))
(k false))
/-! loop.example/g03403/impl.isInput -/
def zj72 {β : Type} (N : Nat) (a0 : Int) (a1 : Int) (k : Bool → Option β) : Option β :=
(cond ((decide (a1 ≥ 0)))
((gd ((decide (0 ≤ a0)))
(k ((decide (a1 < (shlI .i64 1 a0)))))))
(k false))
/-! loop.example/g03403/impl.IsTerm -/
def zj73 {β : Type} (N : Nat) (a0 : Int) (a1 : Int) (a2 : Int) (k : Bool → Option β) : Option β :=
zj71 N a0 fun r4 =>
(cond r4
(zj72 N a0 a1 fun r5 =>
(cond r5
((cond ((decide (a2 ≥ 0)))
(k (((bits .andNot .i64 a2 a1) == 0)))
(k false)))
(k false)))
(k false))
/-! loop.example/g03403/impl.areTerms$1 -/
def zj74 {β : Type} (N : Nat) (a0 : Int) (a1 : Int) (c0 : Int) (k : Bool → Option β) : Option β :=
zj73 N c0 a0 a1 fun r3 =>
k (!r3)
/-! (loop.example/g03403/impl.Term).holds -/
def zj75 {β : Type} (N : Nat) (a0 : Int) (a1 : Int) (a2 : Int) (k : Bool → Option β) : Option β :=
k (((bits .and .i64 a2 a0) == a1))
/-! loop.example/g03403/impl.sumOf$1$1 -/
def zj76 {β : Type} (N : Nat) (a0 : Int) (a1 : Int) (c0 : Int) (k : Bool → Option β) : Option β :=
zj75 N a0 a1 c0 fun r3 =>
k r3
/-! slices.IndexFunc[[]loop.example/g03403/impl.Term,loop.example/g03403/impl.Term] -/
def zj77 {β : Type} (N : Nat) (a1 : (Int → Int → (Bool → Option β) → Option β)) (v0 : List (Int × Int)) (v1 : Int) (v2 : Int) (rec_ : List (Int × Int) → Int → Int → Option β) (k0 : Int → Option β) (k1 : Option β) : Option β :=
(cond ((decide (v2 < v1)))
((gd ((decide (0 ≤ v2)))
((gd ((decide (v2 < (v0.length : Int))))
(a1 ((rd (0, 0) v0 v2).1) ((rd (0, 0) v0 v2).2) fun r3 =>
(cond r3
(k0 v2)
(rec_ v0 v1 ((w64 (v2 + 1))))))))))
(k1 ))
def zj78 {β : Type} (N : Nat) (a1 : (Int → Int → (Bool → Option β) → Option β)) : Nat → List (Int × Int) → Int → Int → (Int → Option β) → (Option β) → Option β
  | 0, _, _, _, _, _ => none
  | F + 1, v0, v1, v2, k0, k1 => zj77 N a1 v0 v1 v2 (fun v0 v1 v2 => zj78 N a1 F v0 v1 v2 k0 k1) k0 k1
def zj79 {β : Type} (N : Nat) (a0 : List (Int × Int)) (a1 : (Int → Int → (Bool → Option β) → Option β)) (k : Int → Option β) : Option β :=
zj78 N a1 N a0 ((a0.length : Int)) 0 (fun e4_0 =>
k e4_0) (k (-1))
/-! slices.ContainsFunc[[]loop.example/g03403/impl.Term,loop.example/g03403/impl.Term] -/
def zj80 {β : Type} (N : Nat) (a0 : List (Int × Int)) (a1 : (Int → Int → (Bool → Option β) → Option β)) (k : Bool → Option β) : Option β :=
zj79 N a0 a1 fun r3 =>
k ((decide (r3 ≥ 0)))
/-! loop.example/g03403/impl.sumOf$1 -/
def zj81 {β : Type} (N : Nat) (a0 : Int) (c0 : List (Int × Int)) (k : Bool → Option β) : Option β :=
zj80 N c0 (fun x0 x1 k => zj76 N x0 x1 a0 k) fun r2 =>
k r2
/-! (*loop.example/g03403/impl.tree).variable -/
def zj82 {β : Type} (N : Nat) (a0 : Int) (k0 : Int → Int → Option β) : Option β :=
k0 ((w64 ((w8 (a0 - 97))))) a0
def zj83 {β : Type} (N : Nat) (a0 : Tr) (k0 : Int → Option β) : Option β :=
(gd ((!(Tr.isNil a0)))
((gd ((!(Tr.isNil a0)))
((gd ((!(Tr.isNil a0)))
(k0 ((w64 ((w8 ((Tr.a a0) - 97)))))))))))
/-! (*loop.example/g03403/impl.tree).ask -/
def zj84 {β : Type} (N : Nat)  (v0 : Tr) (v1 : Int) (v2 : Int) (rec_ : Tr → Int → Int → Option β) (k0 : Tr → Int → Option β) : Option β :=
(gd ((!(Tr.isNil v0)))
((gd ((!(Tr.isNil v0)))
((gd ((!(Tr.isNil v0)))
((cond ((!(Tr.isNil ((Tr.l v0)))))
(zj83 N v0 (fun r4_0 =>
(gd ((decide (0 ≤ r4_0)))
((cond (((bits .and .i64 (shrI .i64 v1 r4_0) 1) == 0))
((gd ((!(Tr.isNil v0)))
((gd ((!(Tr.isNil v0)))
((gd ((!(Tr.isNil v0)))
(rec_ ((Tr.l v0)) v1 ((w64 (v2 + 1))))))))))
((gd ((!(Tr.isNil v0)))
((gd ((!(Tr.isNil v0)))
((gd ((!(Tr.isNil v0)))
(rec_ ((Tr.r v0)) v1 ((w64 (v2 + 1)))))))))))))))
(k0 v0 v2))))))))
def zj85 {β : Type} (N : Nat)  : Nat → Tr → Int → Int → (Tr → Int → Option β) → Option β
  | 0, _, _, _, _ => none
  | F + 1, v0, v1, v2, k0 => zj84 N  v0 v1 v2 (fun v0 v1 v2 => zj85 N  F v0 v1 v2 k0) k0
def zj86 {β : Type} (N : Nat) (a0 : Tr) (a1 : Int) (k : Int → Int → Option β) : Option β :=
zj85 N  N a0 a1 0 (fun e5_0 e5_1 =>
(gd ((!(Tr.isNil e5_0)))
((gd ((!(Tr.isNil e5_0)))
((gd ((!(Tr.isNil e5_0)))
(k ((w64 ((w8 ((Tr.a e5_0) - 48))))) e5_1)))))))
/-! loop.example/g03403/impl.treeOf$1 -/
def zj87 {β : Type} (N : Nat) (a0 : Int) (c0 : Tr) (k : Bool → Option β) : Option β :=
zj86 N c0 a0 fun r2 r3 =>
k ((r2 == 1))
/-! (*loop.example/g03403/impl.part).table$1 -/
def zj88 {β : Type} (N : Nat) (a0 : Int) (c0 : Tr) (k : Bool → Option β) : Option β :=
(gd ((!(Tr.isNil c0)))
((gd ((!(Tr.isNil c0)))
((gd ((!(Tr.isNil c0)))
(k (((Tr.a c0) == 49))))))))
/-! loop.example/g03403/impl.variable$1 -/
def zj89 {β : Type} (N : Nat) (a0 : Int) (c0 : Int) (k : Bool → Option β) : Option β :=
(gd ((decide (0 ≤ c0)))
(k (((bits .and .i64 (shrI .i64 a0 c0) 1) == 1))))
/-! loop.example/g03403/impl.makeTable -/
def zj90 {β : Type} (N : Nat) (a1 : (Int → (Bool → Option β) → Option β)) (v0 : Int) (v1 : Int) (v2 : Int) (v3 : Int) (v4 : Int) (v5 : Int) (rec_ : Int → Int → Int → Int → Int → Int → Option β) (k0 : Int → Int → Int → Int → Option β) : Option β :=
(cond ((decide (v1 < v0)))
(a1 v1 fun r4 =>
(cond r4
((gd ((decide (0 ≤ v1)))
(rec_ v0 ((w64 (v1 + 1))) v2 v3 v4 ((bits .or .i64 v5 (shlI .i64 1 v1))))))
(rec_ v0 ((w64 (v1 + 1))) v2 v3 v4 v5)))
(k0 v2 v3 v4 v5))
def zj91 {β : Type} (N : Nat) (a1 : (Int → (Bool → Option β) → Option β)) : Nat → Int → Int → Int → Int → Int → Int → (Int → Int → Int → Int → Option β) → Option β
  | 0, _, _, _, _, _, _, _ => none
  | F + 1, v0, v1, v2, v3, v4, v5, k0 => zj90 N a1 v0 v1 v2 v3 v4 v5 (fun v0 v1 v2 v3 v4 v5 => zj91 N a1 F v0 v1 v2 v3 v4 v5 k0) k0
def zj92 {β : Type} (N : Nat) (a0 : Int) (a1 : (Int → (Bool → Option β) → Option β)) (k : Int → Int → Option β) : Option β :=
(gd ((decide (0 ≤ a0)))
(zj91 N a1 N ((shlI .i64 1 a0)) 0 0 0 a0 0 (fun e5_0 e5_1 e5_2 e5_3 =>
k e5_2 e5_3)))
/-! loop.example/g03403/impl.IsTable -/
def zj93 {β : Type} (N : Nat) (a0 : Int) (a1 : Int) (k : Bool → Option β) : Option β :=
zj71 N a0 fun r3 =>
(cond r3
((cond ((decide (a1 ≥ 0)))
(zj66 N a0 a1 fun r4 =>
(gd ((decide (0 ≤ r4)))
(k (((shrI .i64 a1 r4) == 0)))))
(k false)))
(k false))
/-! loop.example/g03403/impl.FormatTable -/
def zj94 {β : Type} (N : Nat)  (v0 : Int) (v1 : Int) (v2 : Int) (v3 : Int) (v4 : List Int) (rec_ : Int → Int → Int → Int → List Int → Option β) (k0 : List Int → Option β) : Option β :=
(cond ((decide (v1 < v0)))
(zj67 N v2 v3 v1 fun r5 =>
(gd ((decide (0 ≤ v1)))
((gd ((decide (v1 < (v4.length : Int))))
(rec_ v0 ((w64 (v1 + 1))) v2 v3 ((wr v4 v1 (w8 (48 + (w8 (r5)))))))))))
(k0 v4))
def zj95 {β : Type} (N : Nat)  : Nat → Int → Int → Int → Int → List Int → (List Int → Option β) → Option β
  | 0, _, _, _, _, _, _ => none
  | F + 1, v0, v1, v2, v3, v4, k0 => zj94 N  v0 v1 v2 v3 v4 (fun v0 v1 v2 v3 v4 => zj95 N  F v0 v1 v2 v3 v4 k0) k0
def zj96 {β : Type} (N : Nat) (a0 : Int) (a1 : Int) (k : ByteArray → Option β) : Option β :=
zj93 N a0 a1 fun r3 =>
(cond (!r3)
(k ByteArray.empty)
(zj66 N a0 a1 fun r4 =>
(gd ((decide (0 ≤ r4)))
((gd ((decide (r4 ≤ r4)))
((gd ((decide (1 * r4 ≤ 281474976710656)))
(zj95 N  N ((((List.replicate (Int.toNat r4) (0 : Int))).length : Int)) 0 a0 a1 ((List.replicate (Int.toNat r4) (0 : Int))) (fun e6_0 =>
k ((strOf e6_0)))))))))))
/-! loop.example/g03403/impl.ParseTable -/
def zj97 {β : Type} (N : Nat)  (v0 : Int) (v1 : ByteArray) (v2 : Int) (v3 : Int) (rec_ : Int → ByteArray → Int → Int → Option β) (k0 : Bool → Int → Int → Option β) (k1 : Int → Int → Option β) : Option β :=
(cond ((decide (v0 < 6)))
((gd ((decide (0 ≤ v0)))
((cond (((v1.size : Int) == (shlI .i64 1 v0)))
(zj92 N v0 (fun x0 k => zj65 N x0 v1 k) fun r4 r5 =>
zj96 N r4 r5 fun r6 =>
(cond ((!(r6.toList == v1.toList)))
(k0 false 0 0)
(k0 true r4 r5)))
(rec_ ((w64 (v0 + 1))) v1 v2 v3)))))
(k1 v2 v3))
def zj98 {β : Type} (N : Nat)  : Nat → Int → ByteArray → Int → Int → (Bool → Int → Int → Option β) → (Int → Int → Option β) → Option β
  | 0, _, _, _, _, _, _ => none
  | F + 1, v0, v1, v2, v3, k0, k1 => zj97 N  v0 v1 v2 v3 (fun v0 v1 v2 v3 => zj98 N  F v0 v1 v2 v3 k0 k1) k0 k1
def zj99 {β : Type} (N : Nat) (a0 : ByteArray) (k : Int → Int → Bool → Option β) : Option β :=
zj98 N  N 0 a0 0 0 (fun e7_0 e7_1 e7_2 =>
k e7_1 e7_2 e7_0) (fun e8_0 e8_1 =>
k 0 0 false)
/-! loop.example/g03403/impl.isLetter -/
def zj100 {β : Type} (N : Nat) (a0 : Int) (k : Bool → Option β) : Option β :=
(cond ((decide (a0 ≥ 97)))
(k ((decide (a0 < 102))))
(k false))
/-! loop.example/g03403/impl.FormatTerm -/
def zj101 {β : Type} (N : Nat)  (v0 : Int) (v1 : Int) (v2 : Int) (v3 : Int) (v4 : List Int) (rec_ : Int → Int → Int → Int → List Int → Option β) (k0 : List Int → Option β) : Option β :=
(cond ((decide (v1 < v0)))
((gd ((decide (0 ≤ v1)))
((cond (((bits .and .i64 (shrI .i64 v2 v1) 1) == 0))
(rec_ v0 ((w64 (v1 + 1))) v2 v3 v4)
((gd ((decide (0 ≤ v1)))
((cond (((bits .and .i64 (shrI .i64 v3 v1) 1) == 0))
((gd ((decide ((v4.length + ((([] : List Int) ++ [33])).length) * 1 ≤ 140737488355328)))
((gd ((decide ((((v4 ++ (([] : List Int) ++ [33]))).length + ((([] : List Int) ++ [(w8 (97 + (w8 (v1))))])).length) * 1 ≤ 140737488355328)))
(rec_ v0 ((w64 (v1 + 1))) v2 v3 (((v4 ++ (([] : List Int) ++ [33])) ++ (([] : List Int) ++ [(w8 (97 + (w8 (v1))))]))))))))
((gd ((decide ((v4.length + ((([] : List Int) ++ [(w8 (97 + (w8 (v1))))])).length) * 1 ≤ 140737488355328)))
(rec_ v0 ((w64 (v1 + 1))) v2 v3 ((v4 ++ (([] : List Int) ++ [(w8 (97 + (w8 (v1))))]))))))))))))))
(k0 v4))
def zj102 {β : Type} (N : Nat)  : Nat → Int → Int → Int → Int → List Int → (List Int → Option β) → Option β
  | 0, _, _, _, _, _, _ => none
  | F + 1, v0, v1, v2, v3, v4, k0 => zj101 N  v0 v1 v2 v3 v4 (fun v0 v1 v2 v3 v4 => zj102 N  F v0 v1 v2 v3 v4 k0) k0
def zj103 {β : Type} (N : Nat) (a0 : Int) (a1 : Int) (a2 : Int) (k : ByteArray → Option β) : Option β :=
zj73 N a0 a1 a2 fun r4 =>
(cond (!r4)
(k ByteArray.empty)
(zj102 N  N a0 0 a1 a2 (([] : List Int)) (fun e5_0 =>
(cond (((e5_0.length : Int) == 0))
(k ((strOf [49])))
(k ((strOf e5_0)))))))
/-! loop.example/g03403/impl.ParseTerm -/
def zj104 {β : Type} (N : Nat)  (v0 : Int) (v1 : ByteArray) (v2 : Int) (v3 : Int) (v4 : Int) (v5 : Int) (v6 : Int) (v7 : Int) (v8 : Int) (rec_ : Int → ByteArray → Int → Int → Int → Int → Int → Int → Int → Option β) (k0 : Int → ByteArray → Int → Int → Int → Int → Option β) : Option β :=
(cond ((decide (v4 < v3)))
((gd ((decide (0 ≤ v4)))
((gd ((decide (v4 < (v1.size : Int))))
((cond (((bt v1 v4) == 33))
(rec_ v0 v1 0 v3 ((w64 (v4 + 1))) v5 v6 v7 v8)
((gd ((decide (0 ≤ v4)))
((gd ((decide (v4 < (v1.size : Int))))
(zj100 N ((bt v1 v4)) fun r5 =>
(cond r5
((gd ((decide (0 ≤ v4)))
((gd ((decide (v4 < (v1.size : Int))))
((gd ((decide (0 ≤ (w8 ((bt v1 v4) - 97)))))
((gd ((decide (0 ≤ v4)))
((gd ((decide (v4 < (v1.size : Int))))
((gd ((decide (0 ≤ (w8 ((bt v1 v4) - 97)))))
(rec_ v0 v1 1 v3 ((w64 (v4 + 1))) v5 v6 ((bits .or .i64 v7 (shlI .i64 1 (w8 ((bt v1 v4) - 97))))) ((bits .or .i64 v8 (shlI .i64 v2 (w8 ((bt v1 v4) - 97))))))))))))))))))
(rec_ v0 v1 v2 v3 ((w64 (v4 + 1))) v5 v6 v7 v8)))))))))))))
(k0 v0 v1 v5 v6 v7 v8))
def zj105 {β : Type} (N : Nat)  : Nat → Int → ByteArray → Int → Int → Int → Int → Int → Int → Int → (Int → ByteArray → Int → Int → Int → Int → Option β) → Option β
  | 0, _, _, _, _, _, _, _, _, _, _ => none
  | F + 1, v0, v1, v2, v3, v4, v5, v6, v7, v8, k0 => zj104 N  v0 v1 v2 v3 v4 v5 v6 v7 v8 (fun v0 v1 v2 v3 v4 v5 v6 v7 v8 => zj105 N  F v0 v1 v2 v3 v4 v5 v6 v7 v8 k0) k0
def zj106 {β : Type} (N : Nat) (a0 : Int) (a1 : ByteArray) (k : Int → Int → Bool → Option β) : Option β :=
(cond ((!(a1.toList == ((strOf [49])).toList)))
(zj105 N  N a0 a1 1 ((a1.size : Int)) 0 0 0 0 0 (fun e6_0 e6_1 e6_2 e6_3 e6_4 e6_5 =>
(cond ((e6_1.toList == ByteArray.empty.toList))
(k 0 0 false)
(zj103 N e6_0 e6_4 e6_5 fun r7 =>
(cond ((!(r7.toList == e6_1.toList)))
(k 0 0 false)
(k e6_4 e6_5 true))))))
((cond ((a1.toList == ByteArray.empty.toList))
(k 0 0 false)
(zj103 N a0 0 0 fun r8 =>
(cond ((!(r8.toList == a1.toList)))
(k 0 0 false)
(k 0 0 true))))))
/-! (loop.example/g03403/impl.Table).anf -/
def zj107 {β : Type} (N : Nat) (a0 : Int) (a1 : Int) (k : Int → Int → Option β) : Option β :=
zj92 N a0 (fun x0 k => zj70 N x0 a0 a1 k) fun r4 r5 =>
k r4 r5
/-! loop.example/g03403/impl.joinTerms -/
def zj108 {β : Type} (N : Nat)  (v0 : Int) (v1 : ByteArray) (v2 : List (Int × Int)) (v3 : Int) (v4 : Int) (v5 : List ByteArray) (rec_ : Int → ByteArray → List (Int × Int) → Int → Int → List ByteArray → Option β) (k0 : ByteArray → List ByteArray → Option β) : Option β :=
(cond ((decide (v4 < v3)))
((gd ((decide (0 ≤ v4)))
((gd ((decide (v4 < (v2.length : Int))))
(zj103 N v0 ((rd (0, 0) v2 v4).1) ((rd (0, 0) v2 v4).2) fun r4 =>
(gd ((decide (0 ≤ v4)))
((gd ((decide (v4 < (v5.length : Int))))
(rec_ v0 v1 v2 v3 ((w64 (v4 + 1))) ((wr v5 v4 r4)))))))))))
(k0 v1 v5))
def zj109 {β : Type} (N : Nat)  : Nat → Int → ByteArray → List (Int × Int) → Int → Int → List ByteArray → (ByteArray → List ByteArray → Option β) → Option β
  | 0, _, _, _, _, _, _, _ => none
  | F + 1, v0, v1, v2, v3, v4, v5, k0 => zj108 N  v0 v1 v2 v3 v4 v5 (fun v0 v1 v2 v3 v4 v5 => zj109 N  F v0 v1 v2 v3 v4 v5 k0) k0
def zj110 {β : Type} (N : Nat) (a0 : Int) (a1 : List (Int × Int)) (a2 : ByteArray) (k : ByteArray → Option β) : Option β :=
(gd ((decide (0 ≤ (a1.length : Int))))
((gd ((decide ((a1.length : Int) ≤ (a1.length : Int))))
((gd ((decide (16 * (a1.length : Int) ≤ 281474976710656)))
(zj109 N  N a0 a2 a1 ((a1.length : Int)) 0 ((List.replicate (Int.toNat (a1.length : Int)) ByteArray.empty)) (fun e5_0 e5_1 =>
strings_Join N e5_1 e5_0 fun r6 =>
k r6)))))))
/-! loop.example/g03403/impl.FormatAnf -/
def zj111 {β : Type} (N : Nat)  (v0 : Int) (v1 : Int) (v2 : Int) (v3 : Int) (v4 : Int) (v5 : Int) (v6 : List (Int × Int)) (rec_ : Int → Int → Int → Int → Int → Int → List (Int × Int) → Option β) (k0 : Int → Int → List (Int × Int) → Option β) : Option β :=
(cond ((decide (v1 < v0)))
(zj67 N v4 v5 v1 fun r7 =>
(cond ((r7 == 1))
((gd ((decide ((v6.length + ((([] : List (Int × Int)) ++ [(v1, v1)])).length) * 16 ≤ 140737488355328)))
(rec_ v0 ((w64 (v1 + 1))) v2 v3 v4 v5 ((v6 ++ (([] : List (Int × Int)) ++ [(v1, v1)]))))))
(rec_ v0 ((w64 (v1 + 1))) v2 v3 v4 v5 v6)))
(k0 v2 v3 v6))
def zj112 {β : Type} (N : Nat)  : Nat → Int → Int → Int → Int → Int → Int → List (Int × Int) → (Int → Int → List (Int × Int) → Option β) → Option β
  | 0, _, _, _, _, _, _, _, _ => none
  | F + 1, v0, v1, v2, v3, v4, v5, v6, k0 => zj111 N  v0 v1 v2 v3 v4 v5 v6 (fun v0 v1 v2 v3 v4 v5 v6 => zj112 N  F v0 v1 v2 v3 v4 v5 v6 k0) k0
def zj113 {β : Type} (N : Nat) (a0 : Int) (a1 : Int) (k : ByteArray → Option β) : Option β :=
zj93 N a0 a1 fun r3 =>
(cond (!r3)
(k ByteArray.empty)
(zj107 N a0 a1 fun r4 r5 =>
zj66 N r4 r5 fun r6 =>
zj112 N  N r6 0 a0 a1 r4 r5 (([] : List (Int × Int))) (fun e8_0 e8_1 e8_2 =>
(cond (((e8_2.length : Int) == 0))
(k ((strOf [48])))
(zj110 N e8_0 e8_2 ((strOf [43])) fun r9 =>
k r9)))))
/-! loop.example/g03403/impl.ParseAnf -/
def zj114 {β : Type} (N : Nat)  (v0 : Int) (v1 : ByteArray) (v2 : Int) (v3 : Int) (v4 : Int) (v5 : Int) (v6 : Int) (v7 : Int) (v8 : List ByteArray) (rec_ : Int → ByteArray → Int → Int → Int → Int → Int → Int → List ByteArray → Option β) (k0 : Bool → Int → Int → Option β) (k1 : ByteArray → Int → Int → Int → Int → Option β) : Option β :=
(cond ((decide (v3 < v2)))
((gd ((decide (0 ≤ v3)))
((gd ((decide (v3 < (v8.length : Int))))
(zj106 N v0 ((rd ByteArray.empty v8 v3)) fun r7 r8 r9 =>
(cond (!r9)
(k0 false 0 0)
((gd ((decide (0 ≤ r7)))
(rec_ v0 v1 v2 ((w64 (v3 + 1))) v4 v5 v6 ((bits .or .i64 v7 (shlI .i64 1 r7))) v8)))))))))
(k1 v1 v4 v5 v6 v7))
def zj115 {β : Type} (N : Nat)  : Nat → Int → ByteArray → Int → Int → Int → Int → Int → Int → List ByteArray → (Bool → Int → Int → Option β) → (ByteArray → Int → Int → Int → Int → Option β) → Option β
  | 0, _, _, _, _, _, _, _, _, _, _, _ => none
  | F + 1, v0, v1, v2, v3, v4, v5, v6, v7, v8, k0, k1 => zj114 N  v0 v1 v2 v3 v4 v5 v6 v7 v8 (fun v0 v1 v2 v3 v4 v5 v6 v7 v8 => zj115 N  F v0 v1 v2 v3 v4 v5 v6 v7 v8 k0 k1) k0 k1
def zj116 {β : Type} (N : Nat) (a0 : Int) (a1 : ByteArray) (k : Int → Int → Bool → Option β) : Option β :=
zj71 N a0 fun r5 =>
(cond (!r5)
(k 0 0 false)
((cond ((decide ((a1.size : Int) > 200)))
(k 0 0 false)
((cond ((!(a1.toList == ((strOf [48])).toList)))
(strings_Split N a1 ((strOf [43])) fun r6 =>
zj115 N  N a0 a1 ((r6.length : Int)) 0 0 0 a0 0 r6 (fun e10_0 e10_1 e10_2 =>
k e10_1 e10_2 e10_0) (fun e11_0 e11_1 e11_2 e11_3 e11_4 =>
zj107 N e11_3 e11_4 fun r12 r13 =>
zj113 N r12 r13 fun r14 =>
(cond ((!(r14.toList == e11_0.toList)))
(k 0 0 false)
(k r12 r13 true))))
(zj107 N a0 0 fun r15 r16 =>
zj113 N r15 r16 fun r17 =>
(cond ((!(r17.toList == a1.toList)))
(k 0 0 false)
(k r15 r16 true))))))))
/-! loop.example/g03403/impl.areTerms -/
def zj117 {β : Type} (N : Nat) (a0 : Int) (a1 : List (Int × Int)) (k : Bool → Option β) : Option β :=
zj71 N a0 fun r3 =>
(cond r3
(zj80 N a1 (fun x0 x1 k => zj74 N x0 x1 a0 k) fun r4 =>
k (!r4))
(k false))
/-! loop.example/g03403/impl.areValid -/
def zj118 {β : Type} (N : Nat) (a0 : Int) (a1 : List (Int × Int)) (k : Bool → Option β) : Option β :=
zj117 N a0 a1 fun r3 =>
(cond r3
(k ((decide ((a1.length : Int) ≤ 40))))
(k false))
/-! loop.example/g03403/impl.ParseSum -/
def zj119 {β : Type} (N : Nat)  (v0 : Int) (v1 : Int) (v2 : Int) (v3 : List (Int × Int)) (v4 : List ByteArray) (rec_ : Int → Int → Int → List (Int × Int) → List ByteArray → Option β) (k0 : Bool → List (Int × Int) → Option β) (k1 : Int → List (Int × Int) → Option β) : Option β :=
(cond ((decide (v2 < v1)))
((gd ((decide (0 ≤ v2)))
((gd ((decide (v2 < (v4.length : Int))))
(zj106 N v0 ((rd ByteArray.empty v4 v2)) fun r6 r7 r8 =>
(cond (!r8)
(k0 false (([] : List (Int × Int))))
((gd ((decide ((v3.length + ((([] : List (Int × Int)) ++ [(r6, r7)])).length) * 16 ≤ 140737488355328)))
(rec_ v0 v1 ((w64 (v2 + 1))) ((v3 ++ (([] : List (Int × Int)) ++ [(r6, r7)]))) v4)))))))))
(k1 v0 v3))
def zj120 {β : Type} (N : Nat)  : Nat → Int → Int → Int → List (Int × Int) → List ByteArray → (Bool → List (Int × Int) → Option β) → (Int → List (Int × Int) → Option β) → Option β
  | 0, _, _, _, _, _, _, _ => none
  | F + 1, v0, v1, v2, v3, v4, k0, k1 => zj119 N  v0 v1 v2 v3 v4 (fun v0 v1 v2 v3 v4 => zj120 N  F v0 v1 v2 v3 v4 k0 k1) k0 k1
def zj121 {β : Type} (N : Nat) (a0 : Int) (a1 : ByteArray) (k : List (Int × Int) → Bool → Option β) : Option β :=
zj71 N a0 fun r4 =>
(cond (!r4)
(k (([] : List (Int × Int))) false)
((cond ((decide ((a1.size : Int) > 200)))
(k (([] : List (Int × Int))) false)
((cond ((a1.toList == ((strOf [48])).toList))
(k (([] : List (Int × Int))) true)
(strings_Split N a1 ((strOf [124])) fun r5 =>
zj120 N  N a0 ((r5.length : Int)) 0 (([] : List (Int × Int))) r5 (fun e9_0 e9_1 =>
k e9_1 e9_0) (fun e10_0 e10_1 =>
zj118 N e10_0 e10_1 fun r11 =>
(cond (!r11)
(k (([] : List (Int × Int))) false)
(k e10_1 true)))))))))
/-! loop.example/g03403/impl.sumOf -/
def zj122 {β : Type} (N : Nat) (a0 : Int) (a1 : List (Int × Int)) (k : Int → Int → Option β) : Option β :=
zj92 N a0 (fun x0 k => zj81 N x0 a1 k) fun r4 r5 =>
k r4 r5
/-! loop.example/g03403/impl.TableOfTerms -/
def zj123 {β : Type} (N : Nat) (a0 : Int) (a1 : List (Int × Int)) (k : Int → Int → Bool → Option β) : Option β :=
zj117 N a0 a1 fun r5 =>
(cond (!r5)
(k 0 0 false)
(zj122 N a0 a1 fun r6 r7 =>
k r6 r7 true))
/-! loop.example/g03403/impl.readTree -/
def zj124 {β : Type} (N : Nat) (self : ByteArray → Int → (Tr → ByteArray → Option β) → Option β) (a0 : ByteArray) (a1 : Int) (k : Tr → ByteArray → Option β) : Option β :=
(cond ((a0.toList == ByteArray.empty.toList))
(k Tr.nil ByteArray.empty)
((gd ((decide (0 < (a0.size : Int))))
((gd ((decide (1 ≤ (a0.size : Int))))
((cond (((bt a0 0) == 48))
(k ((Tr.node ((bt a0 0)) 0 Tr.nil Tr.nil)) ((a0.extract (Int.toNat 1) a0.size)))
((cond (((bt a0 0) == 49))
(k ((Tr.node ((bt a0 0)) 0 Tr.nil Tr.nil)) ((a0.extract (Int.toNat 1) a0.size)))
(zj100 N ((bt a0 0)) fun r4 =>
(cond (!r4)
(k Tr.nil ByteArray.empty)
(zj82 N ((bt a0 0)) (fun r5_0 r5_1 =>
(gd ((decide (0 ≤ r5_0)))
((cond (((bits .and .i64 (shrI .i64 a1 r5_0) 1) == 1))
(k Tr.nil ByteArray.empty)
(zj82 N r5_1 (fun r6_0 r6_1 =>
(gd ((decide (0 ≤ r6_0)))
(self ((a0.extract (Int.toNat 1) a0.size)) ((bits .or .i64 a1 (shlI .i64 1 r6_0))) fun r7 r8 =>
(cond ((Tr.isNil r7))
(k Tr.nil ByteArray.empty)
(self r8 ((bits .or .i64 a1 (shlI .i64 1 r6_0))) fun r9 r10 =>
(cond ((Tr.isNil r9))
(k Tr.nil ByteArray.empty)
(k ((Tr.node r6_1 0 r7 r9)) r10))))))))))))))))))))))))
def zj125 {β : Type} (N : Nat) : Nat → ByteArray → Int → (Tr → ByteArray → Option β) → Option β
  | 0, _, _, _ => none
  | F + 1, a0, a1, k => zj124 N (zj125 N F) a0 a1 k
def zj126 {β : Type} (N : Nat) (a0 : ByteArray) (a1 : Int) (k : Tr → ByteArray → Option β) : Option β := zj125 N N a0 a1 k
/-! loop.example/g03403/impl.wholeTree -/
def zj127 {β : Type} (N : Nat) (a0 : ByteArray) (k : Tr → Bool → Option β) : Option β :=
zj126 N a0 0 fun r3 r4 =>
(cond ((!(Tr.isNil r3)))
(k r3 ((r4.toList == ByteArray.empty.toList)))
(k r3 false))
/-! (*loop.example/g03403/impl.tree).within -/
def zj128 {β : Type} (N : Nat) (self : Tr → Int → (Bool → Option β) → Option β) (a0 : Tr) (a1 : Int) (k : Bool → Option β) : Option β :=
(gd ((!(Tr.isNil a0)))
((gd ((!(Tr.isNil a0)))
((gd ((!(Tr.isNil a0)))
((cond ((Tr.isNil ((Tr.l a0))))
(k true)
(zj83 N a0 (fun r3_0 =>
(cond ((decide (r3_0 < a1)))
((gd ((!(Tr.isNil a0)))
((gd ((!(Tr.isNil a0)))
((gd ((!(Tr.isNil a0)))
(self ((Tr.l a0)) a1 fun r4 =>
(cond r4
((gd ((!(Tr.isNil a0)))
((gd ((!(Tr.isNil a0)))
((gd ((!(Tr.isNil a0)))
(self ((Tr.r a0)) a1 fun r5 =>
k r5)))))))
(k false)))))))))
(k false)))))))))))
def zj129 {β : Type} (N : Nat) : Nat → Tr → Int → (Bool → Option β) → Option β
  | 0, _, _, _ => none
  | F + 1, a0, a1, k => zj128 N (zj129 N F) a0 a1 k
def zj130 {β : Type} (N : Nat) (a0 : Tr) (a1 : Int) (k : Bool → Option β) : Option β := zj129 N N a0 a1 k
/-! loop.example/g03403/impl.treeOf -/
def zj131 {β : Type} (N : Nat) (a0 : ByteArray) (a1 : Int) (k : Tr → Int → Int → Bool → Option β) : Option β :=
zj127 N a0 fun r6 r7 =>
(cond (!r7)
(k Tr.nil 0 0 false)
(zj71 N a1 fun r8 =>
(cond (!r8)
(k Tr.nil 0 0 false)
(zj130 N r6 a1 fun r9 =>
(cond (!r9)
(k Tr.nil 0 0 false)
(zj92 N a1 (fun x0 k => zj87 N x0 r6 k) fun r10 r11 =>
k r6 r10 r11 true))))))
/-! loop.example/g03403/impl.TableOfTree -/
def zj132 {β : Type} (N : Nat) (a0 : ByteArray) (a1 : Int) (k : Int → Int → Bool → Option β) : Option β :=
zj131 N a0 a1 fun r5 r6 r7 r8 =>
k r6 r7 r8
/-! loop.example/g03403/impl.readPart -/
def zj133 {β : Type} (N : Nat) (self : ByteArray → (Tr → ByteArray → Option β) → Option β) (a0 : ByteArray) (k : Tr → ByteArray → Option β) : Option β :=
(cond ((a0.toList == ByteArray.empty.toList))
(k Tr.nil ByteArray.empty)
((gd ((decide (0 < (a0.size : Int))))
((gd ((decide (1 ≤ (a0.size : Int))))
(zj100 N ((bt a0 0)) fun r3 =>
(cond r3
(k ((Tr.node ((bt a0 0)) 0 Tr.nil Tr.nil)) ((a0.extract (Int.toNat 1) a0.size)))
((cond (((bt a0 0) == 48))
(k ((Tr.node ((bt a0 0)) 0 Tr.nil Tr.nil)) ((a0.extract (Int.toNat 1) a0.size)))
((cond (((bt a0 0) == 49))
(k ((Tr.node ((bt a0 0)) 0 Tr.nil Tr.nil)) ((a0.extract (Int.toNat 1) a0.size)))
((cond (((bt a0 0) == 33))
(self ((a0.extract (Int.toNat 1) a0.size)) fun r4 r5 =>
(cond ((Tr.isNil r4))
(k Tr.nil ByteArray.empty)
(k ((Tr.node ((bt a0 0)) 0 r4 Tr.nil)) r5)))
((cond (((bt a0 0) == 38))
(self ((a0.extract (Int.toNat 1) a0.size)) fun r6 r7 =>
(cond ((Tr.isNil r6))
(k Tr.nil ByteArray.empty)
(self r7 fun r8 r9 =>
(cond ((Tr.isNil r8))
(k Tr.nil ByteArray.empty)
(k ((Tr.node ((bt a0 0)) 0 r6 r8)) r9)))))
((cond (((bt a0 0) == 124))
(self ((a0.extract (Int.toNat 1) a0.size)) fun r10 r11 =>
(cond ((Tr.isNil r10))
(k Tr.nil ByteArray.empty)
(self r11 fun r12 r13 =>
(cond ((Tr.isNil r12))
(k Tr.nil ByteArray.empty)
(k ((Tr.node ((bt a0 0)) 0 r10 r12)) r13)))))
((cond (((bt a0 0) == 94))
(self ((a0.extract (Int.toNat 1) a0.size)) fun r14 r15 =>
(cond ((Tr.isNil r14))
(k Tr.nil ByteArray.empty)
(self r15 fun r16 r17 =>
(cond ((Tr.isNil r16))
(k Tr.nil ByteArray.empty)
(k ((Tr.node ((bt a0 0)) 0 r14 r16)) r17)))))
(k Tr.nil ByteArray.empty))))))))))))))))))))
def zj134 {β : Type} (N : Nat) : Nat → ByteArray → (Tr → ByteArray → Option β) → Option β
  | 0, _, _ => none
  | F + 1, a0, k => zj133 N (zj134 N F) a0 k
def zj135 {β : Type} (N : Nat) (a0 : ByteArray) (k : Tr → ByteArray → Option β) : Option β := zj134 N N a0 k
/-! loop.example/g03403/impl.readFormula -/
def zj136 {β : Type} (N : Nat) (a0 : ByteArray) (k : Tr → Bool → Option β) : Option β :=
(cond ((decide ((a0.size : Int) > 60)))
(k Tr.nil false)
(zj135 N a0 fun r3 r4 =>
(cond ((!(Tr.isNil r3)))
(k r3 ((r4.toList == ByteArray.empty.toList)))
(k r3 false))))
/-! (*loop.example/g03403/impl.part).isLeaf -/
def zj137 {β : Type} (N : Nat) (a0 : Tr) (k : Bool → Option β) : Option β :=
(gd ((!(Tr.isNil a0)))
((gd ((!(Tr.isNil a0)))
((gd ((!(Tr.isNil a0)))
(k ((Tr.isNil ((Tr.l a0))))))))))
/-! loop.example/g03403/impl.variable -/
def zj138 {β : Type} (N : Nat) (a0 : Int) (a1 : Int) (k : Int → Int → Option β) : Option β :=
zj92 N a0 (fun x0 k => zj89 N x0 a1 k) fun r4 r5 =>
k r4 r5
/-! loop.example/g03403/impl.VariableTable -/
def zj139 {β : Type} (N : Nat) (a0 : Int) (a1 : Int) (k : Int → Int → Bool → Option β) : Option β :=
zj71 N a0 fun r5 =>
(cond (!r5)
(k 0 0 false)
((cond ((decide (a1 < 0)))
(k 0 0 false)
((cond ((decide (a1 ≥ a0)))
(k 0 0 false)
(zj138 N a0 a1 fun r6 r7 =>
k r6 r7 true))))))
/-! (loop.example/g03403/impl.Table).not -/
def zj140 {β : Type} (N : Nat) (a0 : Int) (a1 : Int) (k : Int → Int → Option β) : Option β :=
zj66 N a0 a1 fun r4 =>
(gd ((decide (0 ≤ r4)))
(k a0 ((bits .xor .i64 a1 (w64 ((shlI .i64 1 r4) - 1))))))
/-! (*loop.example/g03403/impl.part).table -/
def zj141 {β : Type} (N : Nat) (self : Tr → Int → (Int → Int → Bool → Option β) → Option β) (a0 : Tr) (a1 : Int) (k : Int → Int → Bool → Option β) : Option β :=
zj137 N a0 fun r5 =>
(cond r5
((gd ((!(Tr.isNil a0)))
((gd ((!(Tr.isNil a0)))
((gd ((!(Tr.isNil a0)))
(zj100 N ((Tr.a a0)) fun r6 =>
(cond r6
((gd ((!(Tr.isNil a0)))
((gd ((!(Tr.isNil a0)))
((gd ((!(Tr.isNil a0)))
(zj139 N a1 ((w64 ((w8 ((Tr.a a0) - 97))))) fun r7 r8 r9 =>
k r7 r8 r9)))))))
(zj92 N a1 (fun x0 k => zj88 N x0 a0 k) fun r10 r11 =>
k r10 r11 true)))))))))
((gd ((!(Tr.isNil a0)))
((gd ((!(Tr.isNil a0)))
((gd ((!(Tr.isNil a0)))
(self ((Tr.l a0)) a1 fun r12 r13 r14 =>
(cond (!r14)
(k 0 0 false)
((gd ((!(Tr.isNil a0)))
((gd ((!(Tr.isNil a0)))
((gd ((!(Tr.isNil a0)))
((cond (((Tr.a a0) == 33))
(zj140 N r12 r13 fun r15 r16 =>
k r15 r16 true)
((gd ((!(Tr.isNil a0)))
((gd ((!(Tr.isNil a0)))
((gd ((!(Tr.isNil a0)))
(self ((Tr.r a0)) a1 fun r17 r18 r19 =>
(cond (!r19)
(k 0 0 false)
((gd ((!(Tr.isNil a0)))
((gd ((!(Tr.isNil a0)))
((gd ((!(Tr.isNil a0)))
((cond (((Tr.a a0) == 38))
(k r12 ((bits .and .i64 r13 r18)) true)
((cond (((Tr.a a0) == 124))
(k r12 ((bits .or .i64 r13 r18)) true)
(k r12 ((bits .xor .i64 r13 r18)) true))))))))))))))))))))))))))))))))))))
def zj142 {β : Type} (N : Nat) : Nat → Tr → Int → (Int → Int → Bool → Option β) → Option β
  | 0, _, _, _ => none
  | F + 1, a0, a1, k => zj141 N (zj142 N F) a0 a1 k
def zj143 {β : Type} (N : Nat) (a0 : Tr) (a1 : Int) (k : Int → Int → Bool → Option β) : Option β := zj142 N N a0 a1 k
/-! loop.example/g03403/impl.TableOfFormula -/
def zj144 {β : Type} (N : Nat) (a0 : ByteArray) (a1 : Int) (k : Int → Int → Bool → Option β) : Option β :=
zj136 N a0 fun r5 r6 =>
(cond (!r6)
(k 0 0 false)
(zj71 N a1 fun r7 =>
(cond (!r7)
(k 0 0 false)
(zj143 N r5 a1 fun r8 r9 r10 =>
k r8 r9 r10))))
/-! loop.example/g03403/impl.ReadAs -/
def zj145 {β : Type} (N : Nat) (a0 : ByteArray) (a1 : Int) (a2 : ByteArray) (k : Int → Int → Bool → Option β) : Option β :=
(cond ((decide (a1 < 0)))
(k 0 0 false)
((cond ((decide (a1 > 4)))
(k 0 0 false)
((cond ((a0.toList == ((strOf [116, 97, 98, 108, 101])).toList))
(zj99 N a2 fun r6 r7 r8 =>
(cond (!r8)
(k 0 0 false)
((cond ((r6 != a1))
(k 0 0 false)
(k r6 r7 true)))))
((cond ((a0.toList == ((strOf [97, 110, 102])).toList))
(zj116 N a1 a2 fun r9 r10 r11 =>
k r9 r10 r11)
((cond ((a0.toList == ((strOf [115, 117, 109])).toList))
(zj121 N a1 a2 fun r12 r13 =>
(cond (!r13)
(k 0 0 false)
(zj123 N a1 r12 fun r14 r15 r16 =>
k r14 r15 r16)))
((cond ((a0.toList == ((strOf [116, 114, 101, 101])).toList))
(zj132 N a2 a1 fun r17 r18 r19 =>
k r17 r18 r19)
((cond ((a0.toList == ((strOf [102, 111, 114, 109, 117, 108, 97])).toList))
(zj144 N a2 a1 fun r20 r21 r22 =>
k r20 r21 r22)
(k 0 0 false))))))))))))))
/-! loop.example/g03403/laws.eqTable -/
def zj146 {β : Type} (N : Nat) (a0 : Int) (a1 : Int) (a2 : Int) (a3 : Int) (k : Bool → Option β) : Option β :=
(cond ((a0 != a2))
(k false)
((cond ((a1 != a3))
(k false)
(k true))))
/-! loop.example/g03403/laws.FnExactReadAs -/
def laws_FnExactReadAs {β : Type} (N : Nat) (a0 : ByteArray) (a1 : Int) (a2 : ByteArray) (k : Bool → Option β) : Option β :=
(cond ((decide ((a0.size : Int) > 1048576)))
(k true)
((cond ((decide ((a2.size : Int) > 1048576)))
(k true)
(zj64 N a0 a1 a2 fun r4 r5 r6 =>
zj145 N a0 a1 a2 fun r7 r8 r9 =>
zj146 N r7 r8 r4 r5 fun r10 =>
(cond (!r10)
(k false)
((cond ((!(r9 == r6)))
(k false)
(k true))))))))
end Go.Proofs.YtemihnclhcobnaaGreatDoor
