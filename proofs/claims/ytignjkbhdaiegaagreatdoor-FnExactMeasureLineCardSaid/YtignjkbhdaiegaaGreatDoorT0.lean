/- The texts of the functions that the claims reach: plain Lean, no program. -/
import Derived.Test.YtignjkbhdaiegaaGreatDoorRvLib
namespace Go.Proofs.YtignjkbhdaiegaaGreatDoor
open Go.Rv
set_option linter.unusedVariables false
set_option maxRecDepth 100000
/-! loop.example/g03403/laws.toTable -/
def j0 {β : Type} (N : Nat) (a0 : Int) (a1 : Int) (k : Int → Int → Option β) : Option β :=
k a0 a1
/-! loop.example/g03403/spec.l1In -/
def j1 {β : Type} (N : Nat) (a0 : Int) (a1 : Int) (a2 : Int) (k : Bool → Option β) : Option β :=
(cond ((decide (a0 ≥ a1)))
(k ((decide (a0 ≤ a2))))
(k false))
/-! loop.example/g03403/spec.IsTable -/
def j2 {β : Type} (N : Nat) (a0 : Int) (a1 : Int) (k : Bool → Option β) : Option β :=
j1 N a0 0 5 fun r3 =>
(cond r3
((gd ((decide (0 ≤ a0)))
((gd ((decide (0 ≤ (shlI .u64 1 a0))))
(j1 N a1 0 ((w64 ((shlI .i64 1 (shlI .u64 1 a0)) - 1))) fun r4 =>
k r4)))))
(k false))
/-! loop.example/g03403/spec.MeasureNames -/
def j3 {β : Type} (N : Nat)  (k : List ByteArray → Option β) : Option β :=
k (((((((((([] : List ByteArray) ++ [(strOf [115, 101, 110, 115, 105, 116, 105, 118, 105, 116, 121])]) ++ [(strOf [98, 108, 111, 99, 107, 115])]) ++ [(strOf [99, 101, 114, 116, 105, 102, 105, 99, 97, 116, 101])]) ++ [(strOf [100, 101, 112, 116, 104])]) ++ [(strOf [100, 101, 103, 114, 101, 101])]) ++ [(strOf [100, 101, 103, 114, 101, 101, 50])]) ++ [(strOf [111, 110, 101, 115])]) ++ [(strOf [105, 110, 102, 108, 117, 101, 110, 99, 101])]))
/-! loop.example/g03403/spec.l10At -/
def j4 {β : Type} (N : Nat)  (v0 : Int) (v1 : Int) (v2 : Int) (v3 : Int) (v4 : Int) (rec_ : Int → Int → Int → Int → Int → Option β) (k0 : Int → Option β) : Option β :=
(cond ((decide (v2 < v3)))
((gd ((decide (0 ≤ v0)))
((gd ((decide (0 ≤ v2)))
((gd ((decide (0 ≤ (bits .xor .i64 v0 (shlI .i64 1 v2)))))
(rec_ v0 ((w64 (v1 + (bits .and .i64 (bits .xor .i64 (shrI .i64 v4 v0) (shrI .i64 v4 (bits .xor .i64 v0 (shlI .i64 1 v2)))) 1)))) ((w64 (v2 + 1))) v3 v4)))))))
(k0 v1))
def j5 {β : Type} (N : Nat)  : Nat → Int → Int → Int → Int → Int → (Int → Option β) → Option β
  | 0, _, _, _, _, _, _ => none
  | F + 1, v0, v1, v2, v3, v4, k0 => j4 N  v0 v1 v2 v3 v4 (fun v0 v1 v2 v3 v4 => j5 N  F v0 v1 v2 v3 v4 k0) k0
def j6 {β : Type} (N : Nat) (a0 : Int) (a1 : Int) (a2 : Int) (k : Int → Option β) : Option β :=
j5 N  N a2 0 0 a0 a1 (fun e4_0 =>
k e4_0)
/-! loop.example/g03403/spec.SensitivityOf -/
def j7 {β : Type} (N : Nat)  (v0 : Int) (v1 : Int) (v2 : Int) (v3 : Int) (rec_ : Int → Int → Int → Int → Option β) (k0 : Int → Option β) : Option β :=
(gd ((decide (0 ≤ v2)))
((cond ((decide (v1 < (shlI .i64 1 v2))))
(j6 N v2 v3 v1 fun r4 =>
rec_ ((mxI v0 r4)) ((w64 (v1 + 1))) v2 v3)
(k0 v0))))
def j8 {β : Type} (N : Nat)  : Nat → Int → Int → Int → Int → (Int → Option β) → Option β
  | 0, _, _, _, _, _ => none
  | F + 1, v0, v1, v2, v3, k0 => j7 N  v0 v1 v2 v3 (fun v0 v1 v2 v3 => j8 N  F v0 v1 v2 v3 k0) k0
def j9 {β : Type} (N : Nat) (a0 : Int) (a1 : Int) (k : Int → Option β) : Option β :=
j2 N a0 a1 fun r3 =>
(cond (!r3)
(k (-1))
(j8 N  N 0 0 a0 a1 (fun e5_0 =>
k e5_0)))
/-! loop.example/g03403/spec.l9In -/
def j10 {β : Type} (N : Nat) (a0 : Int) (a1 : Int) (a2 : Int) (k : Bool → Option β) : Option β :=
j2 N a0 a1 fun r4 =>
(cond r4
((gd ((decide (0 ≤ a0)))
(j1 N a2 0 ((w64 ((shlI .i64 1 a0) - 1))) fun r5 =>
k r5)))
(k false))
/-! loop.example/g03403/spec.l10Blocks -/
def j11 {β : Type} (N : Nat)  (v0 : Int) (v1 : Int) (v2 : Bool) (v3 : Int) (v4 : Int) (v5 : Int) (v6 : List Int) (rec_ : Int → Int → Bool → Int → Int → Int → List Int → Option β) (k0 : Int → Int → Bool → Int → Int → List Int → Option β) : Option β :=
(cond ((decide (v3 < (v6.length : Int))))
((cond v2
((gd ((decide (0 ≤ v3)))
((gd ((decide (v3 < (v6.length : Int))))
((gd ((decide (0 ≤ v3)))
((gd ((decide (v3 < (v6.length : Int))))
(rec_ v0 v1 (((bits .and .i64 (rd 0 v6 v3) v1) != (rd 0 v6 v3))) ((w64 (v3 + 1))) v4 v5 v6)))))))))
(rec_ v0 v1 false ((w64 (v3 + 1))) v4 v5 v6)))
(k0 v0 v1 v2 v4 v5 v6))
def j12 {β : Type} (N : Nat)  : Nat → Int → Int → Bool → Int → Int → Int → List Int → (Int → Int → Bool → Int → Int → List Int → Option β) → Option β
  | 0, _, _, _, _, _, _, _, _ => none
  | F + 1, v0, v1, v2, v3, v4, v5, v6, k0 => j11 N  v0 v1 v2 v3 v4 v5 v6 (fun v0 v1 v2 v3 v4 v5 v6 => j12 N  F v0 v1 v2 v3 v4 v5 v6 k0) k0
def j13 {β : Type} (N : Nat)  (v0 : Int) (v1 : Int) (v2 : Int) (v3 : Int) (v4 : List Int) (rec_ : Int → Int → Int → Int → List Int → Option β) (k0 : List Int → Option β) : Option β :=
(gd ((decide (0 ≤ v2)))
((cond ((decide (v1 < (shlI .i64 1 v2))))
((gd ((decide (0 ≤ v0)))
((gd ((decide (0 ≤ (bits .xor .i64 v0 v1))))
((cond (((bits .and .i64 (shrI .i64 v3 v0) 1) == (bits .and .i64 (shrI .i64 v3 (bits .xor .i64 v0 v1)) 1)))
(rec_ v0 ((w64 (v1 + 1))) v2 v3 v4)
(j12 N  N v0 v1 true 0 v2 v3 v4 (fun e4_0 e4_1 e4_2 e4_3 e4_4 e4_5 =>
(cond e4_2
((gd ((decide ((e4_5.length + ((([] : List Int) ++ [e4_1])).length) * 8 ≤ 140737488355328)))
(rec_ e4_0 ((w64 (e4_1 + 1))) e4_3 e4_4 ((e4_5 ++ (([] : List Int) ++ [e4_1]))))))
(rec_ e4_0 ((w64 (e4_1 + 1))) e4_3 e4_4 e4_5))))))))))
(k0 v4))))
def j14 {β : Type} (N : Nat)  : Nat → Int → Int → Int → Int → List Int → (List Int → Option β) → Option β
  | 0, _, _, _, _, _, _ => none
  | F + 1, v0, v1, v2, v3, v4, k0 => j13 N  v0 v1 v2 v3 v4 (fun v0 v1 v2 v3 v4 => j14 N  F v0 v1 v2 v3 v4 k0) k0
def j15 {β : Type} (N : Nat) (a0 : Int) (a1 : Int) (a2 : Int) (k : List Int → Option β) : Option β :=
j14 N  N a2 1 a0 a1 (([] : List Int)) (fun e5_0 =>
k e5_0)
/-! loop.example/g03403/spec.l10Pack -/
def j16 {β : Type} (N : Nat) (self : List Int → Int → Int → (Int → Option β) → Option β)  (v0 : List Int) (v1 : Int) (v2 : Int) (v3 : Int) (rec_ : List Int → Int → Int → Int → Option β) (k0 : Int → Option β) : Option β :=
(cond ((decide (v3 < (v0.length : Int))))
((gd ((decide (0 ≤ v3)))
((gd ((decide (v3 < (v0.length : Int))))
((cond (((bits .and .i64 (rd 0 v0 v3) v1) == 0))
((gd ((decide (0 ≤ v3)))
((gd ((decide (v3 < (v0.length : Int))))
(self v0 ((w64 (v3 + 1))) ((bits .or .i64 v1 (rd 0 v0 v3))) fun r4 =>
rec_ v0 v1 ((mxI v2 (w64 (1 + r4)))) ((w64 (v3 + 1))))))))
(rec_ v0 v1 v2 ((w64 (v3 + 1))))))))))
(k0 v2))
def j17 {β : Type} (N : Nat) (self : List Int → Int → Int → (Int → Option β) → Option β)  : Nat → List Int → Int → Int → Int → (Int → Option β) → Option β
  | 0, _, _, _, _, _ => none
  | F + 1, v0, v1, v2, v3, k0 => j16 N self  v0 v1 v2 v3 (fun v0 v1 v2 v3 => j17 N self  F v0 v1 v2 v3 k0) k0
def j18 {β : Type} (N : Nat) (self : List Int → Int → Int → (Int → Option β) → Option β) (a0 : List Int) (a1 : Int) (a2 : Int) (k : Int → Option β) : Option β :=
j17 N self  N a0 a2 0 a1 (fun e5_0 =>
k e5_0)
def j19 {β : Type} (N : Nat) : Nat → List Int → Int → Int → (Int → Option β) → Option β
  | 0, _, _, _, _ => none
  | F + 1, a0, a1, a2, k => j18 N (j19 N F) a0 a1 a2 k
def j20 {β : Type} (N : Nat) (a0 : List Int) (a1 : Int) (a2 : Int) (k : Int → Option β) : Option β := j19 N N a0 a1 a2 k
/-! loop.example/g03403/spec.BlockSensitivityAt -/
def j21 {β : Type} (N : Nat) (a0 : Int) (a1 : Int) (a2 : Int) (k : Int → Option β) : Option β :=
j10 N a0 a1 a2 fun r4 =>
(cond (!r4)
(k (-1))
(j15 N a0 a1 a2 fun r5 =>
j20 N r5 0 0 fun r6 =>
k r6))
/-! loop.example/g03403/spec.BlockSensitivityOf -/
def j22 {β : Type} (N : Nat)  (v0 : Int) (v1 : Int) (v2 : Int) (v3 : Int) (rec_ : Int → Int → Int → Int → Option β) (k0 : Int → Option β) : Option β :=
(gd ((decide (0 ≤ v2)))
((cond ((decide (v1 < (shlI .i64 1 v2))))
(j21 N v2 v3 v1 fun r4 =>
rec_ ((mxI v0 r4)) ((w64 (v1 + 1))) v2 v3)
(k0 v0))))
def j23 {β : Type} (N : Nat)  : Nat → Int → Int → Int → Int → (Int → Option β) → Option β
  | 0, _, _, _, _, _ => none
  | F + 1, v0, v1, v2, v3, k0 => j22 N  v0 v1 v2 v3 (fun v0 v1 v2 v3 => j23 N  F v0 v1 v2 v3 k0) k0
def j24 {β : Type} (N : Nat) (a0 : Int) (a1 : Int) (k : Int → Option β) : Option β :=
j2 N a0 a1 fun r3 =>
(cond (!r3)
(k (-1))
(j23 N  N 0 0 a0 a1 (fun e5_0 =>
k e5_0)))
/-! loop.example/g03403/spec.l2Count -/
def j25 {β : Type} (N : Nat)  (v0 : Int) (v1 : Int) (rec_ : Int → Int → Option β) (k0 : Int → Option β) : Option β :=
(cond ((decide (v1 > 0)))
(rec_ ((w64 (v0 + (bits .and .i64 v1 1)))) ((shrI .i64 v1 1)))
(k0 v0))
def j26 {β : Type} (N : Nat)  : Nat → Int → Int → (Int → Option β) → Option β
  | 0, _, _, _ => none
  | F + 1, v0, v1, k0 => j25 N  v0 v1 (fun v0 v1 => j26 N  F v0 v1 k0) k0
def j27 {β : Type} (N : Nat) (a0 : Int) (k : Int → Option β) : Option β :=
j26 N  N 0 a0 (fun e2_0 =>
k e2_0)
/-! loop.example/g03403/spec.l3Cube -/
def j28 {β : Type} (N : Nat)  (v0 : Int) (v1 : Int) (v2 : Int) (v3 : Int) (v4 : Int) (v5 : Int) (rec_ : Int → Int → Int → Int → Int → Int → Option β) (k0 : Int → Option β) (k1 : Int → Option β) : Option β :=
(gd ((decide (0 ≤ v4)))
((cond ((decide (v3 < (shlI .i64 1 v4))))
((cond (((bits .and .i64 v3 v0) != v1))
(rec_ v0 v1 v2 ((w64 (v3 + 1))) v4 v5)
((gd ((decide (0 ≤ v3)))
((cond ((decide (v2 ≥ 0)))
((cond ((v2 != (bits .and .i64 (shrI .i64 v5 v3) 1)))
(k0 2)
(rec_ v0 v1 ((bits .and .i64 (shrI .i64 v5 v3) 1)) ((w64 (v3 + 1))) v4 v5)))
(rec_ v0 v1 ((bits .and .i64 (shrI .i64 v5 v3) 1)) ((w64 (v3 + 1))) v4 v5)))))))
(k1 v2))))
def j29 {β : Type} (N : Nat)  : Nat → Int → Int → Int → Int → Int → Int → (Int → Option β) → (Int → Option β) → Option β
  | 0, _, _, _, _, _, _, _, _ => none
  | F + 1, v0, v1, v2, v3, v4, v5, k0, k1 => j28 N  v0 v1 v2 v3 v4 v5 (fun v0 v1 v2 v3 v4 v5 => j29 N  F v0 v1 v2 v3 v4 v5 k0 k1) k0 k1
def j30 {β : Type} (N : Nat) (a0 : Int) (a1 : Int) (a2 : Int) (a3 : Int) (k : Int → Option β) : Option β :=
j29 N  N a2 a3 (-1) 0 a0 a1 (fun e5_0 =>
k e5_0) (fun e6_0 =>
k e6_0)
/-! loop.example/g03403/spec.l9Set -/
def j31 {β : Type} (N : Nat)  (v0 : Int) (v1 : Int) (v2 : Int) (v3 : Int) (v4 : Int) (rec_ : Int → Int → Int → Int → Int → Option β) (k0 : Int → Option β) : Option β :=
(gd ((decide (0 ≤ v3)))
((cond ((decide (v2 < (shlI .i64 1 v3))))
(j27 N v2 fun r4 =>
j27 N v1 fun r5 =>
(cond ((decide (r4 < r5)))
(j30 N v3 v4 v2 ((bits .and .i64 v0 v2)) fun r6 =>
(cond ((decide (r6 < 2)))
(rec_ v0 v2 ((w64 (v2 + 1))) v3 v4)
(rec_ v0 v1 ((w64 (v2 + 1))) v3 v4)))
(rec_ v0 v1 ((w64 (v2 + 1))) v3 v4)))
(k0 v1))))
def j32 {β : Type} (N : Nat)  : Nat → Int → Int → Int → Int → Int → (Int → Option β) → Option β
  | 0, _, _, _, _, _, _ => none
  | F + 1, v0, v1, v2, v3, v4, k0 => j31 N  v0 v1 v2 v3 v4 (fun v0 v1 v2 v3 v4 => j32 N  F v0 v1 v2 v3 v4 k0) k0
def j33 {β : Type} (N : Nat) (a0 : Int) (a1 : Int) (a2 : Int) (k : Int → Option β) : Option β :=
(gd ((decide (0 ≤ a0)))
(j32 N  N a2 ((w64 ((shlI .i64 1 a0) - 1))) 0 a0 a1 (fun e7_0 =>
k e7_0)))
/-! loop.example/g03403/spec.CertificateAt -/
def j34 {β : Type} (N : Nat) (a0 : Int) (a1 : Int) (a2 : Int) (k : Int → Option β) : Option β :=
j10 N a0 a1 a2 fun r4 =>
(cond (!r4)
(k (-1))
(j33 N a0 a1 a2 fun r5 =>
j27 N r5 fun r6 =>
k r6))
/-! loop.example/g03403/spec.CertificateOf -/
def j35 {β : Type} (N : Nat)  (v0 : Int) (v1 : Int) (v2 : Int) (v3 : Int) (v4 : Int) (rec_ : Int → Int → Int → Int → Int → Option β) (k0 : Int → Option β) : Option β :=
(gd ((decide (0 ≤ v3)))
((cond ((decide (v2 < (shlI .i64 1 v3))))
((gd ((decide (0 ≤ v2)))
((cond (((bits .and .i64 (shrI .i64 v4 v2) 1) == v0))
(j34 N v3 v4 v2 fun r6 =>
rec_ v0 ((mxI v1 r6)) ((w64 (v2 + 1))) v3 v4)
(rec_ v0 v1 ((w64 (v2 + 1))) v3 v4)))))
(k0 v1))))
def j36 {β : Type} (N : Nat)  : Nat → Int → Int → Int → Int → Int → (Int → Option β) → Option β
  | 0, _, _, _, _, _, _ => none
  | F + 1, v0, v1, v2, v3, v4, k0 => j35 N  v0 v1 v2 v3 v4 (fun v0 v1 v2 v3 v4 => j36 N  F v0 v1 v2 v3 v4 k0) k0
def j37 {β : Type} (N : Nat) (a0 : Int) (a1 : Int) (a2 : Int) (k : Int → Option β) : Option β :=
j2 N a0 a1 fun r4 =>
(cond (!r4)
(k (-1))
(j1 N a2 0 1 fun r5 =>
(cond (!r5)
(k (-1))
(j36 N  N a2 0 0 a0 a1 (fun e7_0 =>
k e7_0)))))
/-! loop.example/g03403/spec.l7Least -/
def j38 {β : Type} (N : Nat) (self : Int → Int → Int → Int → (Int → Option β) → Option β)  (v0 : Int) (v1 : Int) (v2 : Int) (v3 : Int) (v4 : Int) (v5 : Int) (rec_ : Int → Int → Int → Int → Int → Int → Option β) (k0 : Int → Option β) : Option β :=
(cond ((decide (v3 < v4)))
((gd ((decide (0 ≤ v3)))
((cond (((bits .and .i64 v0 (shlI .i64 1 v3)) == 0))
(self v4 v5 ((bits .or .i64 v0 (shlI .i64 1 v3))) v1 fun r6 =>
self v4 v5 ((bits .or .i64 v0 (shlI .i64 1 v3))) ((bits .or .i64 v1 (shlI .i64 1 v3))) fun r7 =>
rec_ v0 v1 ((mnI v2 (w64 (1 + (mxI r6 r7))))) ((w64 (v3 + 1))) v4 v5)
(rec_ v0 v1 v2 ((w64 (v3 + 1))) v4 v5)))))
(k0 v2))
def j39 {β : Type} (N : Nat) (self : Int → Int → Int → Int → (Int → Option β) → Option β)  : Nat → Int → Int → Int → Int → Int → Int → (Int → Option β) → Option β
  | 0, _, _, _, _, _, _, _ => none
  | F + 1, v0, v1, v2, v3, v4, v5, k0 => j38 N self  v0 v1 v2 v3 v4 v5 (fun v0 v1 v2 v3 v4 v5 => j39 N self  F v0 v1 v2 v3 v4 v5 k0) k0
def j40 {β : Type} (N : Nat) (self : Int → Int → Int → Int → (Int → Option β) → Option β) (a0 : Int) (a1 : Int) (a2 : Int) (a3 : Int) (k : Int → Option β) : Option β :=
j30 N a0 a1 a2 a3 fun r5 =>
(cond ((decide (r5 < 2)))
(k 0)
(j39 N self  N a2 a3 10 0 a0 a1 (fun e8_0 =>
k e8_0)))
def j41 {β : Type} (N : Nat) : Nat → Int → Int → Int → Int → (Int → Option β) → Option β
  | 0, _, _, _, _, _ => none
  | F + 1, a0, a1, a2, a3, k => j40 N (j41 N F) a0 a1 a2 a3 k
def j42 {β : Type} (N : Nat) (a0 : Int) (a1 : Int) (a2 : Int) (a3 : Int) (k : Int → Option β) : Option β := j41 N N a0 a1 a2 a3 k
/-! loop.example/g03403/spec.LeastDepth -/
def j43 {β : Type} (N : Nat) (a0 : Int) (a1 : Int) (k : Int → Option β) : Option β :=
j2 N a0 a1 fun r3 =>
(cond (!r3)
(k (-1))
((cond ((decide (a0 > 4)))
(k (-1))
(j42 N a0 a1 0 0 fun r4 =>
k r4))))
/-! loop.example/g03403/spec.RealCoefficients -/
def j44 {β : Type} (N : Nat)  (v0 : Int) (v1 : Int) (v2 : Int) (v3 : Int) (v4 : Int) (v5 : List Int) (rec_ : Int → Int → Int → Int → Int → List Int → Option β) (k0 : Int → Int → Int → Int → List Int → Option β) : Option β :=
(cond ((decide (v2 ≤ v0)))
((cond (((bits .and .i64 v2 v0) != v2))
(rec_ v0 v1 ((w64 (v2 + 1))) v3 v4 v5)
(j27 N ((bits .xor .i64 v0 v2)) fun r4 =>
(cond (((remI r4 2) == 1))
((gd ((decide (0 ≤ v2)))
(rec_ v0 ((w64 (v1 - (bits .and .i64 (shrI .i64 v4 v2) 1)))) ((w64 (v2 + 1))) v3 v4 v5)))
((gd ((decide (0 ≤ v2)))
(rec_ v0 ((w64 (v1 + (bits .and .i64 (shrI .i64 v4 v2) 1)))) ((w64 (v2 + 1))) v3 v4 v5)))))))
(k0 v0 v1 v3 v4 v5))
def j45 {β : Type} (N : Nat)  : Nat → Int → Int → Int → Int → Int → List Int → (Int → Int → Int → Int → List Int → Option β) → Option β
  | 0, _, _, _, _, _, _, _ => none
  | F + 1, v0, v1, v2, v3, v4, v5, k0 => j44 N  v0 v1 v2 v3 v4 v5 (fun v0 v1 v2 v3 v4 v5 => j45 N  F v0 v1 v2 v3 v4 v5 k0) k0
def j46 {β : Type} (N : Nat)  (v0 : Int) (v1 : Int) (v2 : Int) (v3 : List Int) (rec_ : Int → Int → Int → List Int → Option β) (k0 : List Int → Option β) : Option β :=
j2 N v1 v2 fun r3 =>
(cond r3
((gd ((decide (0 ≤ v1)))
((cond ((decide (v0 < (shlI .i64 1 v1))))
(j45 N  N v0 0 0 v1 v2 v3 (fun e5_0 e5_1 e5_2 e5_3 e5_4 =>
(gd ((decide ((e5_4.length + ((([] : List Int) ++ [e5_1])).length) * 8 ≤ 140737488355328)))
(rec_ ((w64 (e5_0 + 1))) e5_2 e5_3 ((e5_4 ++ (([] : List Int) ++ [e5_1])))))))
(k0 v3)))))
(k0 v3))
def j47 {β : Type} (N : Nat)  : Nat → Int → Int → Int → List Int → (List Int → Option β) → Option β
  | 0, _, _, _, _, _ => none
  | F + 1, v0, v1, v2, v3, k0 => j46 N  v0 v1 v2 v3 (fun v0 v1 v2 v3 => j47 N  F v0 v1 v2 v3 k0) k0
def j48 {β : Type} (N : Nat) (a0 : Int) (a1 : Int) (k : List Int → Option β) : Option β :=
j47 N  N 0 a0 a1 (([] : List Int)) (fun e6_0 =>
k e6_0)
/-! loop.example/g03403/spec.RealDegree -/
def j49 {β : Type} (N : Nat)  (v0 : Int) (v1 : Int) (v2 : List Int) (rec_ : Int → Int → List Int → Option β) (k0 : Int → Option β) : Option β :=
(cond ((decide (v1 < (v2.length : Int))))
((gd ((decide (0 ≤ v1)))
((gd ((decide (v1 < (v2.length : Int))))
((cond (((rd 0 v2 v1) != 0))
(j27 N v1 fun r5 =>
rec_ ((mxI v0 r5)) ((w64 (v1 + 1))) v2)
(rec_ v0 ((w64 (v1 + 1))) v2)))))))
(k0 v0))
def j50 {β : Type} (N : Nat)  : Nat → Int → Int → List Int → (Int → Option β) → Option β
  | 0, _, _, _, _ => none
  | F + 1, v0, v1, v2, k0 => j49 N  v0 v1 v2 (fun v0 v1 v2 => j50 N  F v0 v1 v2 k0) k0
def j51 {β : Type} (N : Nat) (a0 : Int) (a1 : Int) (k : Int → Option β) : Option β :=
j2 N a0 a1 fun r3 =>
(cond (!r3)
(k (-2))
(j48 N a0 a1 fun r4 =>
j50 N  N (-1) 0 r4 (fun e6_0 =>
k e6_0)))
/-! loop.example/g03403/spec.l11Anf -/
def j52 {β : Type} (N : Nat)  (v0 : Int) (v1 : Int) (v2 : Int) (v3 : Int) (v4 : Int) (v5 : Int) (rec_ : Int → Int → Int → Int → Int → Int → Option β) (k0 : Int → Int → Int → Int → Int → Option β) : Option β :=
(cond ((decide (v3 ≤ v1)))
((cond (((bits .and .i64 v3 v1) == v3))
((gd ((decide (0 ≤ v3)))
(rec_ v0 v1 ((w64 (v2 + (bits .and .i64 (shrI .i64 v5 v3) 1)))) ((w64 (v3 + 1))) v4 v5)))
(rec_ v0 v1 v2 ((w64 (v3 + 1))) v4 v5)))
(k0 v0 v1 v2 v4 v5))
def j53 {β : Type} (N : Nat)  : Nat → Int → Int → Int → Int → Int → Int → (Int → Int → Int → Int → Int → Option β) → Option β
  | 0, _, _, _, _, _, _, _ => none
  | F + 1, v0, v1, v2, v3, v4, v5, k0 => j52 N  v0 v1 v2 v3 v4 v5 (fun v0 v1 v2 v3 v4 v5 => j53 N  F v0 v1 v2 v3 v4 v5 k0) k0
def j54 {β : Type} (N : Nat)  (v0 : Int) (v1 : Int) (v2 : Int) (v3 : Int) (rec_ : Int → Int → Int → Int → Option β) (k0 : Int → Option β) : Option β :=
(gd ((decide (0 ≤ v2)))
((cond ((decide (v1 < (shlI .i64 1 v2))))
(j53 N  N v0 v1 0 0 v2 v3 (fun e3_0 e3_1 e3_2 e3_3 e3_4 =>
(gd ((decide (0 ≤ e3_1)))
(rec_ ((bits .or .i64 e3_0 (shlI .i64 (remI e3_2 2) e3_1))) ((w64 (e3_1 + 1))) e3_3 e3_4))))
(k0 v0))))
def j55 {β : Type} (N : Nat)  : Nat → Int → Int → Int → Int → (Int → Option β) → Option β
  | 0, _, _, _, _, _ => none
  | F + 1, v0, v1, v2, v3, k0 => j54 N  v0 v1 v2 v3 (fun v0 v1 v2 v3 => j55 N  F v0 v1 v2 v3 k0) k0
def j56 {β : Type} (N : Nat) (a0 : Int) (a1 : Int) (k : Int → Option β) : Option β :=
j55 N  N 0 0 a0 a1 (fun e4_0 =>
k e4_0)
/-! loop.example/g03403/spec.DegreeMod2 -/
def j57 {β : Type} (N : Nat)  (v0 : Int) (v1 : Int) (v2 : Int) (v3 : Int) (v4 : Int) (rec_ : Int → Int → Int → Int → Int → Option β) (k0 : Int → Option β) : Option β :=
(gd ((decide (0 ≤ v3)))
((cond ((decide (v2 < (shlI .i64 1 v3))))
((gd ((decide (0 ≤ v2)))
((cond (((bits .and .i64 (shrI .i64 v0 v2) 1) == 1))
(j27 N v2 fun r5 =>
rec_ v0 ((mxI v1 r5)) ((w64 (v2 + 1))) v3 v4)
(rec_ v0 v1 ((w64 (v2 + 1))) v3 v4)))))
(k0 v1))))
def j58 {β : Type} (N : Nat)  : Nat → Int → Int → Int → Int → Int → (Int → Option β) → Option β
  | 0, _, _, _, _, _, _ => none
  | F + 1, v0, v1, v2, v3, v4, k0 => j57 N  v0 v1 v2 v3 v4 (fun v0 v1 v2 v3 v4 => j58 N  F v0 v1 v2 v3 v4 k0) k0
def j59 {β : Type} (N : Nat) (a0 : Int) (a1 : Int) (k : Int → Option β) : Option β :=
j2 N a0 a1 fun r3 =>
(cond (!r3)
(k (-2))
(j56 N a0 a1 fun r4 =>
j58 N  N r4 (-1) 0 a0 a1 (fun e6_0 =>
k e6_0)))
/-! loop.example/g03403/spec.CountOnes -/
def j60 {β : Type} (N : Nat) (a0 : Int) (a1 : Int) (k : Int → Option β) : Option β :=
j2 N a0 a1 fun r3 =>
(cond (!r3)
(k (-1))
(j27 N a1 fun r4 =>
k r4))
/-! loop.example/g03403/spec.SensitiveEdges -/
def j61 {β : Type} (N : Nat)  (v0 : Int) (v1 : Int) (v2 : Int) (v3 : Int) (rec_ : Int → Int → Int → Int → Option β) (k0 : Int → Option β) : Option β :=
(gd ((decide (0 ≤ v2)))
((cond ((decide (v1 < (shlI .i64 1 v2))))
(j6 N v2 v3 v1 fun r4 =>
rec_ ((w64 (v0 + r4))) ((w64 (v1 + 1))) v2 v3)
(k0 v0))))
def j62 {β : Type} (N : Nat)  : Nat → Int → Int → Int → Int → (Int → Option β) → Option β
  | 0, _, _, _, _, _ => none
  | F + 1, v0, v1, v2, v3, k0 => j61 N  v0 v1 v2 v3 (fun v0 v1 v2 v3 => j62 N  F v0 v1 v2 v3 k0) k0
def j63 {β : Type} (N : Nat) (a0 : Int) (a1 : Int) (k : Int → Option β) : Option β :=
j2 N a0 a1 fun r3 =>
(cond (!r3)
(k (-1))
(j62 N  N 0 0 a0 a1 (fun e5_0 =>
k ((quoI .i64 e5_0 2)))))
/-! loop.example/g03403/spec.TotalInfluence -/
def j64 {β : Type} (N : Nat) (a0 : Int) (a1 : Int) (k : Int → Option β) : Option β :=
j2 N a0 a1 fun r3 =>
(cond (!r3)
(k (-1))
(j63 N a0 a1 fun r4 =>
k ((w64 (2 * r4)))))
/-! loop.example/g03403/spec.MeasureOf -/
def j65 {β : Type} (N : Nat) (a0 : ByteArray) (a1 : Int) (a2 : Int) (k : Int → Option β) : Option β :=
j2 N a1 a2 fun r4 =>
(cond (!r4)
(k (-1))
((cond ((decide (a1 > 4)))
(k (-1))
((cond ((a0.toList == ((strOf [115, 101, 110, 115, 105, 116, 105, 118, 105, 116, 121])).toList))
(j9 N a1 a2 fun r5 =>
k r5)
((cond ((a0.toList == ((strOf [98, 108, 111, 99, 107, 115])).toList))
(j24 N a1 a2 fun r6 =>
k r6)
((cond ((a0.toList == ((strOf [99, 101, 114, 116, 105, 102, 105, 99, 97, 116, 101])).toList))
(j37 N a1 a2 0 fun r7 =>
j37 N a1 a2 1 fun r8 =>
k ((mxI r7 r8)))
((cond ((a0.toList == ((strOf [100, 101, 112, 116, 104])).toList))
(j43 N a1 a2 fun r9 =>
k r9)
((cond ((a0.toList == ((strOf [100, 101, 103, 114, 101, 101])).toList))
(j51 N a1 a2 fun r10 =>
k ((mxI 0 r10)))
((cond ((a0.toList == ((strOf [100, 101, 103, 114, 101, 101, 50])).toList))
(j59 N a1 a2 fun r11 =>
k ((mxI 0 r11)))
((cond ((a0.toList == ((strOf [111, 110, 101, 115])).toList))
(j60 N a1 a2 fun r12 =>
k r12)
((cond ((a0.toList == ((strOf [105, 110, 102, 108, 117, 101, 110, 99, 101])).toList))
(j64 N a1 a2 fun r13 =>
k r13)
(k (-1)))))))))))))))))))))
/-! loop.example/g03403/spec.FormatInt -/
def j66 {β : Type} (N : Nat)  (v0 : Int) (v1 : ByteArray) (v2 : Bool) (rec_ : Int → ByteArray → Bool → Option β) (k0 : ByteArray → Bool → Option β) : Option β :=
(cond ((v0 != 0))
((cond ((decide ((remI v0 10) < 0)))
((gd ((decide (((strOf ((([] : List Int) ++ [(w8 ((w64 (48 + (w64 (0 - (remI v0 10)))))))])))).size + v1.size ≤ 9223372036854775807)))
(rec_ ((quoI .i64 v0 10)) (((strOf ((([] : List Int) ++ [(w8 ((w64 (48 + (w64 (0 - (remI v0 10)))))))]))) ++ v1)) v2)))
((gd ((decide (((strOf ((([] : List Int) ++ [(w8 ((w64 (48 + (remI v0 10)))))])))).size + v1.size ≤ 9223372036854775807)))
(rec_ ((quoI .i64 v0 10)) (((strOf ((([] : List Int) ++ [(w8 ((w64 (48 + (remI v0 10)))))]))) ++ v1)) v2)))))
(k0 v1 v2))
def j67 {β : Type} (N : Nat)  : Nat → Int → ByteArray → Bool → (ByteArray → Bool → Option β) → Option β
  | 0, _, _, _, _ => none
  | F + 1, v0, v1, v2, k0 => j66 N  v0 v1 v2 (fun v0 v1 v2 => j67 N  F v0 v1 v2 k0) k0
def j68 {β : Type} (N : Nat) (a0 : Int) (k : ByteArray → Option β) : Option β :=
(cond ((a0 == 0))
(k ((strOf [48])))
(j67 N  N a0 ByteArray.empty ((decide (a0 < 0))) (fun e2_0 e2_1 =>
(cond e2_1
((gd ((decide (((strOf [45])).size + e2_0.size ≤ 9223372036854775807)))
(k (((strOf [45]) ++ e2_0)))))
(k e2_0)))))
/-! loop.example/g03403/spec.l7Average -/
def j69 {β : Type} (N : Nat) (self : Int → Int → Int → Int → Int → (Int → Option β) → Option β)  (v0 : Int) (v1 : Int) (v2 : Int) (v3 : Int) (v4 : Int) (v5 : Int) (v6 : Int) (rec_ : Int → Int → Int → Int → Int → Int → Int → Option β) (k0 : Int → Option β) : Option β :=
(cond ((decide (v4 < v5)))
((gd ((decide (0 ≤ v4)))
((cond (((bits .and .i64 v0 (shlI .i64 1 v4)) == 0))
((gd ((decide (0 ≤ v2)))
(self v5 v6 ((bits .or .i64 v0 (shlI .i64 1 v4))) v1 ((w64 (v2 - 1))) fun r7 =>
self v5 v6 ((bits .or .i64 v0 (shlI .i64 1 v4))) ((bits .or .i64 v1 (shlI .i64 1 v4))) ((w64 (v2 - 1))) fun r8 =>
rec_ v0 v1 v2 ((mnI v3 (w64 ((w64 ((shlI .i64 1 v2) + r7)) + r8)))) ((w64 (v4 + 1))) v5 v6)))
(rec_ v0 v1 v2 v3 ((w64 (v4 + 1))) v5 v6)))))
(k0 v3))
def j70 {β : Type} (N : Nat) (self : Int → Int → Int → Int → Int → (Int → Option β) → Option β)  : Nat → Int → Int → Int → Int → Int → Int → Int → (Int → Option β) → Option β
  | 0, _, _, _, _, _, _, _, _ => none
  | F + 1, v0, v1, v2, v3, v4, v5, v6, k0 => j69 N self  v0 v1 v2 v3 v4 v5 v6 (fun v0 v1 v2 v3 v4 v5 v6 => j70 N self  F v0 v1 v2 v3 v4 v5 v6 k0) k0
def j71 {β : Type} (N : Nat) (self : Int → Int → Int → Int → Int → (Int → Option β) → Option β) (a0 : Int) (a1 : Int) (a2 : Int) (a3 : Int) (a4 : Int) (k : Int → Option β) : Option β :=
j30 N a0 a1 a2 a3 fun r6 =>
(cond ((decide (r6 < 2)))
(k 0)
(j70 N self  N a2 a3 a4 1000 0 a0 a1 (fun e9_0 =>
k e9_0)))
def j72 {β : Type} (N : Nat) : Nat → Int → Int → Int → Int → Int → (Int → Option β) → Option β
  | 0, _, _, _, _, _, _ => none
  | F + 1, a0, a1, a2, a3, a4, k => j71 N (j72 N F) a0 a1 a2 a3 a4 k
def j73 {β : Type} (N : Nat) (a0 : Int) (a1 : Int) (a2 : Int) (a3 : Int) (a4 : Int) (k : Int → Option β) : Option β := j72 N N a0 a1 a2 a3 a4 k
/-! loop.example/g03403/spec.LeastAverage -/
def j74 {β : Type} (N : Nat) (a0 : Int) (a1 : Int) (k : Int → Option β) : Option β :=
j2 N a0 a1 fun r3 =>
(cond (!r3)
(k (-1))
((cond ((decide (a0 > 4)))
(k (-1))
(j73 N a0 a1 0 0 a0 fun r4 =>
k r4))))
/-! loop.example/g03403/spec.l2Full -/
def j75 {β : Type} (N : Nat) (a0 : Int) (k : Int → Option β) : Option β :=
(gd ((decide (0 ≤ a0)))
((gd ((decide (0 ≤ (shlI .u64 1 a0))))
(k ((w64 ((shlI .i64 1 (shlI .u64 1 a0)) - 1)))))))
/-! loop.example/g03403/spec.l23Fine -/
def j76 {β : Type} (N : Nat) (a0 : Int) (a1 : Int) (a2 : Int) (k : Bool → Option β) : Option β :=
j1 N a0 0 4 fun r4 =>
(cond r4
(j75 N a0 fun r5 =>
j1 N a1 0 r5 fun r6 =>
(cond r6
(j75 N a0 fun r7 =>
j1 N a2 0 r7 fun r8 =>
k r8)
(k false)))
(k false))
/-! loop.example/g03403/spec.l23Edges -/
def j77 {β : Type} (N : Nat)  (v0 : Int) (v1 : Int) (v2 : Int) (v3 : Int) (v4 : Int) (v5 : Int) (rec_ : Int → Int → Int → Int → Int → Int → Option β) (k0 : Int → Int → Int → Int → Int → Option β) : Option β :=
(cond ((decide (v5 < v0)))
((gd ((decide (0 ≤ v4)))
((cond (((bits .and .i64 (shrI .i64 v1 v4) 1) == 1))
((gd ((decide (0 ≤ v5)))
((gd ((decide (0 ≤ (bits .xor .i64 v4 (shlI .i64 1 v5)))))
((cond (((bits .and .i64 (shrI .i64 v2 (bits .xor .i64 v4 (shlI .i64 1 v5))) 1) == 1))
(rec_ v0 v1 v2 ((w64 (v3 + 1))) v4 ((w64 (v5 + 1))))
(rec_ v0 v1 v2 v3 v4 ((w64 (v5 + 1))))))))))
(rec_ v0 v1 v2 v3 v4 ((w64 (v5 + 1))))))))
(k0 v0 v1 v2 v3 v4))
def j78 {β : Type} (N : Nat)  : Nat → Int → Int → Int → Int → Int → Int → (Int → Int → Int → Int → Int → Option β) → Option β
  | 0, _, _, _, _, _, _, _ => none
  | F + 1, v0, v1, v2, v3, v4, v5, k0 => j77 N  v0 v1 v2 v3 v4 v5 (fun v0 v1 v2 v3 v4 v5 => j78 N  F v0 v1 v2 v3 v4 v5 k0) k0
def j79 {β : Type} (N : Nat)  (v0 : Int) (v1 : Int) (v2 : Int) (v3 : Int) (v4 : Int) (rec_ : Int → Int → Int → Int → Int → Option β) (k0 : Int → Option β) : Option β :=
(gd ((decide (0 ≤ v0)))
((cond ((decide (v4 < (shlI .i64 1 v0))))
(j78 N  N v0 v1 v2 v3 v4 0 (fun e4_0 e4_1 e4_2 e4_3 e4_4 =>
rec_ e4_0 e4_1 e4_2 e4_3 ((w64 (e4_4 + 1)))))
(k0 v3))))
def j80 {β : Type} (N : Nat)  : Nat → Int → Int → Int → Int → Int → (Int → Option β) → Option β
  | 0, _, _, _, _, _, _ => none
  | F + 1, v0, v1, v2, v3, v4, k0 => j79 N  v0 v1 v2 v3 v4 (fun v0 v1 v2 v3 v4 => j80 N  F v0 v1 v2 v3 v4 k0) k0
def j81 {β : Type} (N : Nat) (a0 : Int) (a1 : Int) (a2 : Int) (k : Int → Option β) : Option β :=
j80 N  N a0 a1 a2 0 0 (fun e5_0 =>
k e5_0)
/-! loop.example/g03403/spec.PairBound -/
def j82 {β : Type} (N : Nat) (a0 : Int) (a1 : Int) (a2 : Int) (k : Int → Option β) : Option β :=
j76 N a0 a1 a2 fun r4 =>
(cond (!r4)
(k (-1))
(j27 N a1 fun r5 =>
j27 N a2 fun r6 =>
(cond (((w64 (r5 * r6)) == 0))
(k 0)
(j81 N a0 a1 a2 fun r7 =>
(gd (((w64 (r5 * r6)) != 0))
(k ((quoI .i64 (w64 ((w64 ((w64 (r7 * r7)) + (w64 (r5 * r6)))) - 1)) (w64 (r5 * r6))))))))))
/-! loop.example/g03403/spec.TableBound -/
def j83 {β : Type} (N : Nat) (a0 : Int) (a1 : Int) (k : Int → Option β) : Option β :=
j2 N a0 a1 fun r3 =>
(cond (!r3)
(k (-1))
((cond ((decide (a0 > 4)))
(k (-1))
(j75 N a0 fun r4 =>
j82 N a0 a1 ((w64 (r4 - a1))) fun r5 =>
k r5))))
/-! loop.example/g03403/spec.IsEvasive -/
def j84 {β : Type} (N : Nat) (a0 : Int) (a1 : Int) (k : Bool → Option β) : Option β :=
j2 N a0 a1 fun r3 =>
(cond r3
((cond ((decide (a0 ≤ 4)))
(j42 N a0 a1 0 0 fun r4 =>
k ((r4 == a0)))
(k false)))
(k false))
/-! loop.example/g03403/spec.l34Yes -/
def j85 {β : Type} (N : Nat) (a0 : Bool) (a1 : ByteArray) (k : ByteArray → Option β) : Option β :=
(cond a0
(k a1)
(k ByteArray.empty))
/-! loop.example/g03403/spec.MeasureLine -/
def j86 {β : Type} (N : Nat)  (v0 : ByteArray) (v1 : Int) (v2 : Int) (v3 : Int) (v4 : List ByteArray) (rec_ : ByteArray → Int → Int → Int → List ByteArray → Option β) (k0 : ByteArray → Int → Int → Option β) : Option β :=
(cond ((decide (v1 < (v4.length : Int))))
((gd ((decide (v0.size + ((strOf [32])).size ≤ 9223372036854775807)))
((gd ((decide (0 ≤ v1)))
((gd ((decide (v1 < (v4.length : Int))))
((gd ((decide (((v0 ++ (strOf [32]))).size + ((rd ByteArray.empty v4 v1)).size ≤ 9223372036854775807)))
((gd ((decide ((((v0 ++ (strOf [32])) ++ (rd ByteArray.empty v4 v1))).size + ((strOf [32])).size ≤ 9223372036854775807)))
((gd ((decide (0 ≤ v1)))
((gd ((decide (v1 < (v4.length : Int))))
(j65 N ((rd ByteArray.empty v4 v1)) v2 v3 fun r5 =>
j68 N r5 fun r6 =>
(gd ((decide (((((v0 ++ (strOf [32])) ++ (rd ByteArray.empty v4 v1)) ++ (strOf [32]))).size + r6.size ≤ 9223372036854775807)))
(rec_ (((((v0 ++ (strOf [32])) ++ (rd ByteArray.empty v4 v1)) ++ (strOf [32])) ++ r6)) ((w64 (v1 + 1))) v2 v3 v4)))))))))))))))))
(k0 v0 v2 v3))
def j87 {β : Type} (N : Nat)  : Nat → ByteArray → Int → Int → Int → List ByteArray → (ByteArray → Int → Int → Option β) → Option β
  | 0, _, _, _, _, _, _ => none
  | F + 1, v0, v1, v2, v3, v4, k0 => j86 N  v0 v1 v2 v3 v4 (fun v0 v1 v2 v3 v4 => j87 N  F v0 v1 v2 v3 v4 k0) k0
def j88 {β : Type} (N : Nat) (a0 : Int) (a1 : Int) (k : ByteArray → Option β) : Option β :=
j2 N a0 a1 fun r3 =>
(cond (!r3)
(k ByteArray.empty)
((cond ((decide (a0 > 4)))
(k ByteArray.empty)
(j3 N  fun r4 =>
j87 N  N ((strOf [109, 101, 97, 115, 117, 114, 101, 115])) 0 a0 a1 r4 (fun e7_0 e7_1 e7_2 =>
(gd ((decide (e7_0.size + ((strOf [32, 97, 118, 101, 114, 97, 103, 101, 32])).size ≤ 9223372036854775807)))
(j74 N e7_1 e7_2 fun r8 =>
j68 N r8 fun r9 =>
(gd ((decide (((e7_0 ++ (strOf [32, 97, 118, 101, 114, 97, 103, 101, 32]))).size + r9.size ≤ 9223372036854775807)))
((gd ((decide ((((e7_0 ++ (strOf [32, 97, 118, 101, 114, 97, 103, 101, 32])) ++ r9)).size + ((strOf [32, 107, 114, 97, 112, 99, 104, 101, 110, 107, 111, 32])).size ≤ 9223372036854775807)))
(j83 N e7_1 e7_2 fun r10 =>
j68 N r10 fun r11 =>
(gd ((decide (((((e7_0 ++ (strOf [32, 97, 118, 101, 114, 97, 103, 101, 32])) ++ r9) ++ (strOf [32, 107, 114, 97, 112, 99, 104, 101, 110, 107, 111, 32]))).size + r11.size ≤ 9223372036854775807)))
(j84 N e7_1 e7_2 fun r12 =>
j85 N r12 ((strOf [32, 101, 118, 97, 115, 105, 118, 101])) fun r13 =>
(gd ((decide ((((((e7_0 ++ (strOf [32, 97, 118, 101, 114, 97, 103, 101, 32])) ++ r9) ++ (strOf [32, 107, 114, 97, 112, 99, 104, 101, 110, 107, 111, 32])) ++ r11)).size + r13.size ≤ 9223372036854775807)))
(k ((((((e7_0 ++ (strOf [32, 97, 118, 101, 114, 97, 103, 101, 32])) ++ r9) ++ (strOf [32, 107, 114, 97, 112, 99, 104, 101, 110, 107, 111, 32])) ++ r11) ++ r13)))))))))))))))))
/-! loop.example/g03403/impl.isBits -/
def j89 {β : Type} (N : Nat) (a0 : Int) (k : Bool → Option β) : Option β :=
(cond ((decide (a0 ≥ 0)))
(k ((decide (a0 ≤ 5))))
(k false))
/-! (loop.example/g03403/impl.Table).size -/
def j90 {β : Type} (N : Nat) (a0 : Int) (a1 : Int) (k : Int → Option β) : Option β :=
(gd ((decide (0 ≤ a0)))
(k ((shlI .i64 1 a0))))
/-! loop.example/g03403/impl.IsTable -/
def j91 {β : Type} (N : Nat) (a0 : Int) (a1 : Int) (k : Bool → Option β) : Option β :=
j89 N a0 fun r3 =>
(cond r3
((cond ((decide (a1 ≥ 0)))
(j90 N a0 a1 fun r4 =>
(gd ((decide (0 ≤ r4)))
(k (((shrI .i64 a1 r4) == 0)))))
(k false)))
(k false))
/-! loop.example/g03403/impl.isSmall -/
def j92 {β : Type} (N : Nat) (a0 : Int) (a1 : Int) (a2 : Int) (k : Bool → Option β) : Option β :=
j91 N a0 a1 fun r4 =>
(cond r4
(k ((decide (a0 ≤ a2))))
(k false))
/-! loop.example/g03403/impl.MeasureNames -/
def j93 {β : Type} (N : Nat)  (k : List ByteArray → Option β) : Option β :=
k (((((((((([] : List ByteArray) ++ [(strOf [115, 101, 110, 115, 105, 116, 105, 118, 105, 116, 121])]) ++ [(strOf [98, 108, 111, 99, 107, 115])]) ++ [(strOf [99, 101, 114, 116, 105, 102, 105, 99, 97, 116, 101])]) ++ [(strOf [100, 101, 112, 116, 104])]) ++ [(strOf [100, 101, 103, 114, 101, 101])]) ++ [(strOf [100, 101, 103, 114, 101, 101, 50])]) ++ [(strOf [111, 110, 101, 115])]) ++ [(strOf [105, 110, 102, 108, 117, 101, 110, 99, 101])]))
/-! (loop.example/g03403/impl.Table).at -/
def j94 {β : Type} (N : Nat) (a0 : Int) (a1 : Int) (a2 : Int) (k : Int → Option β) : Option β :=
(gd ((decide (0 ≤ a2)))
(k ((bits .and .i64 (shrI .i64 a1 a2) 1))))
/-! (loop.example/g03403/impl.Table).changes -/
def j95 {β : Type} (N : Nat) (a0 : Int) (a1 : Int) (a2 : Int) (a3 : Int) (k : Bool → Option β) : Option β :=
j94 N a0 a1 a2 fun r5 =>
j94 N a0 a1 ((bits .xor .i64 a2 a3)) fun r6 =>
k ((r5 != r6))
/-! (loop.example/g03403/impl.Table).sensitivity -/
def j96 {β : Type} (N : Nat)  (v0 : Int) (v1 : Int) (v2 : Int) (v3 : Int) (v4 : Int) (v5 : Int) (rec_ : Int → Int → Int → Int → Int → Int → Option β) (k0 : Int → Option β) : Option β :=
(cond ((decide (v3 < v2)))
((gd ((decide (0 ≤ v3)))
(j95 N v4 v5 v0 ((shlI .i64 1 v3)) fun r4 =>
(cond r4
(rec_ v0 ((w64 (v1 + 1))) v2 ((w64 (v3 + 1))) v4 v5)
(rec_ v0 v1 v2 ((w64 (v3 + 1))) v4 v5)))))
(k0 v1))
def j97 {β : Type} (N : Nat)  : Nat → Int → Int → Int → Int → Int → Int → (Int → Option β) → Option β
  | 0, _, _, _, _, _, _, _ => none
  | F + 1, v0, v1, v2, v3, v4, v5, k0 => j96 N  v0 v1 v2 v3 v4 v5 (fun v0 v1 v2 v3 v4 v5 => j97 N  F v0 v1 v2 v3 v4 v5 k0) k0
def j98 {β : Type} (N : Nat) (a0 : Int) (a1 : Int) (a2 : Int) (k : Int → Option β) : Option β :=
j97 N  N a2 0 a0 0 a0 a1 (fun e5_0 =>
k e5_0)
/-! loop.example/g03403/impl.SensitivityOf -/
def j99 {β : Type} (N : Nat)  (v0 : Int) (v1 : Int) (v2 : Int) (v3 : Int) (v4 : Int) (rec_ : Int → Int → Int → Int → Int → Option β) (k0 : Int → Option β) : Option β :=
(cond ((decide (v2 < v1)))
(j98 N v3 v4 v2 fun r5 =>
rec_ ((mxI v0 r5)) v1 ((w64 (v2 + 1))) v3 v4)
(k0 v0))
def j100 {β : Type} (N : Nat)  : Nat → Int → Int → Int → Int → Int → (Int → Option β) → Option β
  | 0, _, _, _, _, _, _ => none
  | F + 1, v0, v1, v2, v3, v4, k0 => j99 N  v0 v1 v2 v3 v4 (fun v0 v1 v2 v3 v4 => j100 N  F v0 v1 v2 v3 v4 k0) k0
def j101 {β : Type} (N : Nat) (a0 : Int) (a1 : Int) (k : Int → Option β) : Option β :=
j91 N a0 a1 fun r3 =>
(cond (!r3)
(k (-1))
(j90 N a0 a1 fun r4 =>
j100 N  N 0 r4 0 a0 a1 (fun e6_0 =>
k e6_0)))
/-! (loop.example/g03403/impl.Table).blocks -/
def j102 {β : Type} (N : Nat)  (v0 : Int) (v1 : Int) (v2 : Bool) (v3 : Int) (v4 : Int) (v5 : Int) (v6 : Int) (v7 : Int) (v8 : List Int) (rec_ : Int → Int → Bool → Int → Int → Int → Int → Int → List Int → Option β) (k0 : Int → Int → Bool → Int → Int → Int → Int → List Int → Option β) : Option β :=
(cond v2
((cond ((decide (v3 > 0)))
(j95 N v6 v7 v0 v3 fun r6 =>
rec_ v0 v1 (!r6) ((bits .and .i64 (w64 (v3 - 1)) v1)) v4 v5 v6 v7 v8)
(k0 v0 v1 v2 v4 v5 v6 v7 v8)))
(k0 v0 v1 v2 v4 v5 v6 v7 v8))
def j103 {β : Type} (N : Nat)  : Nat → Int → Int → Bool → Int → Int → Int → Int → Int → List Int → (Int → Int → Bool → Int → Int → Int → Int → List Int → Option β) → Option β
  | 0, _, _, _, _, _, _, _, _, _, _ => none
  | F + 1, v0, v1, v2, v3, v4, v5, v6, v7, v8, k0 => j102 N  v0 v1 v2 v3 v4 v5 v6 v7 v8 (fun v0 v1 v2 v3 v4 v5 v6 v7 v8 => j103 N  F v0 v1 v2 v3 v4 v5 v6 v7 v8 k0) k0
def j104 {β : Type} (N : Nat)  (v0 : Int) (v1 : Int) (v2 : Int) (v3 : Int) (v4 : Int) (v5 : List Int) (rec_ : Int → Int → Int → Int → Int → List Int → Option β) (k0 : List Int → Option β) : Option β :=
(cond ((decide (v2 < v1)))
(j95 N v3 v4 v0 v2 fun r5 =>
j103 N  N v0 v2 r5 ((bits .and .i64 (w64 (v2 - 1)) v2)) v1 v2 v3 v4 v5 (fun e7_0 e7_1 e7_2 e7_3 e7_4 e7_5 e7_6 e7_7 =>
(cond e7_2
((gd ((decide ((e7_7.length + ((([] : List Int) ++ [e7_1])).length) * 8 ≤ 140737488355328)))
(rec_ e7_0 e7_3 ((w64 (e7_4 + 1))) e7_5 e7_6 ((e7_7 ++ (([] : List Int) ++ [e7_1]))))))
(rec_ e7_0 e7_3 ((w64 (e7_4 + 1))) e7_5 e7_6 e7_7))))
(k0 v5))
def j105 {β : Type} (N : Nat)  : Nat → Int → Int → Int → Int → Int → List Int → (List Int → Option β) → Option β
  | 0, _, _, _, _, _, _, _ => none
  | F + 1, v0, v1, v2, v3, v4, v5, k0 => j104 N  v0 v1 v2 v3 v4 v5 (fun v0 v1 v2 v3 v4 v5 => j105 N  F v0 v1 v2 v3 v4 v5 k0) k0
def j106 {β : Type} (N : Nat) (a0 : Int) (a1 : Int) (a2 : Int) (k : List Int → Option β) : Option β :=
j90 N a0 a1 fun r4 =>
j105 N  N a2 r4 0 a0 a1 (([] : List Int)) (fun e8_0 =>
k e8_0)
/-! (loop.example/g03403/impl.Table).apart -/
def j107 {β : Type} (N : Nat)  (v0 : Int) (v1 : Int) (v2 : Int) (v3 : Int) (v4 : Int) (v5 : Int) (v6 : Int) (v7 : List Int) (v8 : List Int) (rec_ : Int → Int → Int → Int → Int → Int → Int → List Int → List Int → Option β) (k0 : Int → Int → Int → Int → List Int → List Int → Option β) : Option β :=
(cond ((decide (v4 < v3)))
((gd ((decide (0 ≤ v4)))
((gd ((decide (v4 < (v7.length : Int))))
((cond (((bits .andNot .i64 (rd 0 v7 v4) v0) == 0))
((gd ((decide (0 ≤ v0)))
((gd ((decide (v0 < (v8.length : Int))))
((gd ((decide (0 ≤ (bits .andNot .i64 v0 (rd 0 v7 v4)))))
((gd ((decide ((bits .andNot .i64 v0 (rd 0 v7 v4)) < (v8.length : Int))))
((gd ((decide (0 ≤ v0)))
((gd ((decide (v0 < (v8.length : Int))))
(rec_ v0 v1 v2 v3 ((w64 (v4 + 1))) v5 v6 v7 ((wr v8 v0 (mxI (rd 0 v8 v0) (w64 (1 + (rd 0 v8 (bits .andNot .i64 v0 (rd 0 v7 v4)))))))))))))))))))))
(rec_ v0 v1 v2 v3 ((w64 (v4 + 1))) v5 v6 v7 v8)))))))
(k0 v1 v2 v5 v6 v7 v8))
def j108 {β : Type} (N : Nat)  : Nat → Int → Int → Int → Int → Int → Int → Int → List Int → List Int → (Int → Int → Int → Int → List Int → List Int → Option β) → Option β
  | 0, _, _, _, _, _, _, _, _, _, _ => none
  | F + 1, v0, v1, v2, v3, v4, v5, v6, v7, v8, k0 => j107 N  v0 v1 v2 v3 v4 v5 v6 v7 v8 (fun v0 v1 v2 v3 v4 v5 v6 v7 v8 => j108 N  F v0 v1 v2 v3 v4 v5 v6 v7 v8 k0) k0
def j109 {β : Type} (N : Nat)  (v0 : Int) (v1 : Int) (v2 : Int) (v3 : Int) (v4 : List Int) (v5 : List Int) (rec_ : Int → Int → Int → Int → List Int → List Int → Option β) (k0 : Int → Int → List Int → Option β) : Option β :=
(cond ((decide (v1 < v0)))
(j108 N  N v1 v0 v1 ((v4.length : Int)) 0 v2 v3 v4 v5 (fun e6_0 e6_1 e6_2 e6_3 e6_4 e6_5 =>
rec_ e6_0 ((w64 (e6_1 + 1))) e6_2 e6_3 e6_4 e6_5))
(k0 v2 v3 v5))
def j110 {β : Type} (N : Nat)  : Nat → Int → Int → Int → Int → List Int → List Int → (Int → Int → List Int → Option β) → Option β
  | 0, _, _, _, _, _, _, _ => none
  | F + 1, v0, v1, v2, v3, v4, v5, k0 => j109 N  v0 v1 v2 v3 v4 v5 (fun v0 v1 v2 v3 v4 v5 => j110 N  F v0 v1 v2 v3 v4 v5 k0) k0
def j111 {β : Type} (N : Nat) (a0 : Int) (a1 : Int) (a2 : Int) (k : Int → Option β) : Option β :=
j106 N a0 a1 a2 fun r4 =>
j90 N a0 a1 fun r5 =>
(gd ((decide (0 ≤ r5)))
((gd ((decide (r5 ≤ r5)))
((gd ((decide (8 * r5 ≤ 281474976710656)))
(j110 N  N ((((List.replicate (Int.toNat r5) (0 : Int))).length : Int)) 0 a0 a1 r4 ((List.replicate (Int.toNat r5) (0 : Int))) (fun e7_0 e7_1 e7_2 =>
j90 N e7_0 e7_1 fun r8 =>
(gd ((decide (0 ≤ (w64 (r8 - 1)))))
((gd ((decide ((w64 (r8 - 1)) < (e7_2.length : Int))))
(k ((rd 0 e7_2 (w64 (r8 - 1)))))))))))))))
/-! loop.example/g03403/impl.BlockSensitivityOf -/
def j112 {β : Type} (N : Nat)  (v0 : Int) (v1 : Int) (v2 : Int) (v3 : Int) (v4 : Int) (rec_ : Int → Int → Int → Int → Int → Option β) (k0 : Int → Option β) : Option β :=
(cond ((decide (v2 < v1)))
(j111 N v3 v4 v2 fun r5 =>
rec_ ((mxI v0 r5)) v1 ((w64 (v2 + 1))) v3 v4)
(k0 v0))
def j113 {β : Type} (N : Nat)  : Nat → Int → Int → Int → Int → Int → (Int → Option β) → Option β
  | 0, _, _, _, _, _, _ => none
  | F + 1, v0, v1, v2, v3, v4, k0 => j112 N  v0 v1 v2 v3 v4 (fun v0 v1 v2 v3 v4 => j113 N  F v0 v1 v2 v3 v4 k0) k0
def j114 {β : Type} (N : Nat) (a0 : Int) (a1 : Int) (k : Int → Option β) : Option β :=
j91 N a0 a1 fun r3 =>
(cond (!r3)
(k (-1))
(j90 N a0 a1 fun r4 =>
j113 N  N 0 r4 0 a0 a1 (fun e6_0 =>
k e6_0)))
/-! loop.example/g03403/impl.isBit -/
def j115 {β : Type} (N : Nat) (a0 : Int) (k : Bool → Option β) : Option β :=
(cond ((a0 == 0))
(k true)
(k ((a0 == 1))))
/-! math/bits.OnesCount64 -/
def j116 {β : Type} (N : Nat) (a0 : Int) (k : Int → Option β) : Option β :=
k ((bits .and .i64 (w64 ((wu64 ((wu64 ((wu64 ((bits .and .u64 (wu64 ((shrI .u64 (wu64 ((bits .and .u64 (shrI .u64 (wu64 ((bits .and .u64 (shrI .u64 a0 1) 6148914691236517205) + (bits .and .u64 a0 6148914691236517205))) 2) 3689348814741910323) + (bits .and .u64 (wu64 ((bits .and .u64 (shrI .u64 a0 1) 6148914691236517205) + (bits .and .u64 a0 6148914691236517205))) 3689348814741910323))) 4) + (wu64 ((bits .and .u64 (shrI .u64 (wu64 ((bits .and .u64 (shrI .u64 a0 1) 6148914691236517205) + (bits .and .u64 a0 6148914691236517205))) 2) 3689348814741910323) + (bits .and .u64 (wu64 ((bits .and .u64 (shrI .u64 a0 1) 6148914691236517205) + (bits .and .u64 a0 6148914691236517205))) 3689348814741910323))))) 1085102592571150095) + (shrI .u64 (bits .and .u64 (wu64 ((shrI .u64 (wu64 ((bits .and .u64 (shrI .u64 (wu64 ((bits .and .u64 (shrI .u64 a0 1) 6148914691236517205) + (bits .and .u64 a0 6148914691236517205))) 2) 3689348814741910323) + (bits .and .u64 (wu64 ((bits .and .u64 (shrI .u64 a0 1) 6148914691236517205) + (bits .and .u64 a0 6148914691236517205))) 3689348814741910323))) 4) + (wu64 ((bits .and .u64 (shrI .u64 (wu64 ((bits .and .u64 (shrI .u64 a0 1) 6148914691236517205) + (bits .and .u64 a0 6148914691236517205))) 2) 3689348814741910323) + (bits .and .u64 (wu64 ((bits .and .u64 (shrI .u64 a0 1) 6148914691236517205) + (bits .and .u64 a0 6148914691236517205))) 3689348814741910323))))) 1085102592571150095) 8))) + (shrI .u64 (wu64 ((bits .and .u64 (wu64 ((shrI .u64 (wu64 ((bits .and .u64 (shrI .u64 (wu64 ((bits .and .u64 (shrI .u64 a0 1) 6148914691236517205) + (bits .and .u64 a0 6148914691236517205))) 2) 3689348814741910323) + (bits .and .u64 (wu64 ((bits .and .u64 (shrI .u64 a0 1) 6148914691236517205) + (bits .and .u64 a0 6148914691236517205))) 3689348814741910323))) 4) + (wu64 ((bits .and .u64 (shrI .u64 (wu64 ((bits .and .u64 (shrI .u64 a0 1) 6148914691236517205) + (bits .and .u64 a0 6148914691236517205))) 2) 3689348814741910323) + (bits .and .u64 (wu64 ((bits .and .u64 (shrI .u64 a0 1) 6148914691236517205) + (bits .and .u64 a0 6148914691236517205))) 3689348814741910323))))) 1085102592571150095) + (shrI .u64 (bits .and .u64 (wu64 ((shrI .u64 (wu64 ((bits .and .u64 (shrI .u64 (wu64 ((bits .and .u64 (shrI .u64 a0 1) 6148914691236517205) + (bits .and .u64 a0 6148914691236517205))) 2) 3689348814741910323) + (bits .and .u64 (wu64 ((bits .and .u64 (shrI .u64 a0 1) 6148914691236517205) + (bits .and .u64 a0 6148914691236517205))) 3689348814741910323))) 4) + (wu64 ((bits .and .u64 (shrI .u64 (wu64 ((bits .and .u64 (shrI .u64 a0 1) 6148914691236517205) + (bits .and .u64 a0 6148914691236517205))) 2) 3689348814741910323) + (bits .and .u64 (wu64 ((bits .and .u64 (shrI .u64 a0 1) 6148914691236517205) + (bits .and .u64 a0 6148914691236517205))) 3689348814741910323))))) 1085102592571150095) 8))) 16))) + (shrI .u64 (wu64 ((wu64 ((bits .and .u64 (wu64 ((shrI .u64 (wu64 ((bits .and .u64 (shrI .u64 (wu64 ((bits .and .u64 (shrI .u64 a0 1) 6148914691236517205) + (bits .and .u64 a0 6148914691236517205))) 2) 3689348814741910323) + (bits .and .u64 (wu64 ((bits .and .u64 (shrI .u64 a0 1) 6148914691236517205) + (bits .and .u64 a0 6148914691236517205))) 3689348814741910323))) 4) + (wu64 ((bits .and .u64 (shrI .u64 (wu64 ((bits .and .u64 (shrI .u64 a0 1) 6148914691236517205) + (bits .and .u64 a0 6148914691236517205))) 2) 3689348814741910323) + (bits .and .u64 (wu64 ((bits .and .u64 (shrI .u64 a0 1) 6148914691236517205) + (bits .and .u64 a0 6148914691236517205))) 3689348814741910323))))) 1085102592571150095) + (shrI .u64 (bits .and .u64 (wu64 ((shrI .u64 (wu64 ((bits .and .u64 (shrI .u64 (wu64 ((bits .and .u64 (shrI .u64 a0 1) 6148914691236517205) + (bits .and .u64 a0 6148914691236517205))) 2) 3689348814741910323) + (bits .and .u64 (wu64 ((bits .and .u64 (shrI .u64 a0 1) 6148914691236517205) + (bits .and .u64 a0 6148914691236517205))) 3689348814741910323))) 4) + (wu64 ((bits .and .u64 (shrI .u64 (wu64 ((bits .and .u64 (shrI .u64 a0 1) 6148914691236517205) + (bits .and .u64 a0 6148914691236517205))) 2) 3689348814741910323) + (bits .and .u64 (wu64 ((bits .and .u64 (shrI .u64 a0 1) 6148914691236517205) + (bits .and .u64 a0 6148914691236517205))) 3689348814741910323))))) 1085102592571150095) 8))) + (shrI .u64 (wu64 ((bits .and .u64 (wu64 ((shrI .u64 (wu64 ((bits .and .u64 (shrI .u64 (wu64 ((bits .and .u64 (shrI .u64 a0 1) 6148914691236517205) + (bits .and .u64 a0 6148914691236517205))) 2) 3689348814741910323) + (bits .and .u64 (wu64 ((bits .and .u64 (shrI .u64 a0 1) 6148914691236517205) + (bits .and .u64 a0 6148914691236517205))) 3689348814741910323))) 4) + (wu64 ((bits .and .u64 (shrI .u64 (wu64 ((bits .and .u64 (shrI .u64 a0 1) 6148914691236517205) + (bits .and .u64 a0 6148914691236517205))) 2) 3689348814741910323) + (bits .and .u64 (wu64 ((bits .and .u64 (shrI .u64 a0 1) 6148914691236517205) + (bits .and .u64 a0 6148914691236517205))) 3689348814741910323))))) 1085102592571150095) + (shrI .u64 (bits .and .u64 (wu64 ((shrI .u64 (wu64 ((bits .and .u64 (shrI .u64 (wu64 ((bits .and .u64 (shrI .u64 a0 1) 6148914691236517205) + (bits .and .u64 a0 6148914691236517205))) 2) 3689348814741910323) + (bits .and .u64 (wu64 ((bits .and .u64 (shrI .u64 a0 1) 6148914691236517205) + (bits .and .u64 a0 6148914691236517205))) 3689348814741910323))) 4) + (wu64 ((bits .and .u64 (shrI .u64 (wu64 ((bits .and .u64 (shrI .u64 a0 1) 6148914691236517205) + (bits .and .u64 a0 6148914691236517205))) 2) 3689348814741910323) + (bits .and .u64 (wu64 ((bits .and .u64 (shrI .u64 a0 1) 6148914691236517205) + (bits .and .u64 a0 6148914691236517205))) 3689348814741910323))))) 1085102592571150095) 8))) 16))) 32))))) 127))
/-! loop.example/g03403/impl.ones -/
def j117 {β : Type} (N : Nat) (a0 : Int) (k : Int → Option β) : Option β :=
j116 N ((wu64 (a0))) fun r2 =>
k r2
/-! (loop.example/g03403/impl.Table).cube -/
def j118 {β : Type} (N : Nat)  (v0 : Int) (v1 : Int) (v2 : Int) (v3 : Int) (v4 : Int) (v5 : Int) (v6 : Bool) (v7 : Bool) (rec_ : Int → Int → Int → Int → Int → Int → Bool → Bool → Option β) (k0 : Bool → Bool → Option β) : Option β :=
(cond ((decide (v3 < v2)))
((cond (((bits .and .i64 v3 v0) == v1))
(j94 N v4 v5 v3 fun r6 =>
(gd ((decide (0 ≤ r6)))
((gd ((decide (r6 < 2)))
((cond ((r6 == 0))
(rec_ v0 v1 v2 ((w64 (v3 + 1))) v4 v5 true v7)
(rec_ v0 v1 v2 ((w64 (v3 + 1))) v4 v5 v6 true)))))))
(rec_ v0 v1 v2 ((w64 (v3 + 1))) v4 v5 v6 v7)))
(k0 v6 v7))
def j119 {β : Type} (N : Nat)  : Nat → Int → Int → Int → Int → Int → Int → Bool → Bool → (Bool → Bool → Option β) → Option β
  | 0, _, _, _, _, _, _, _, _, _ => none
  | F + 1, v0, v1, v2, v3, v4, v5, v6, v7, k0 => j118 N  v0 v1 v2 v3 v4 v5 v6 v7 (fun v0 v1 v2 v3 v4 v5 v6 v7 => j119 N  F v0 v1 v2 v3 v4 v5 v6 v7 k0) k0
def j120 {β : Type} (N : Nat) (a0 : Int) (a1 : Int) (a2 : Int) (a3 : Int) (k : Int → Option β) : Option β :=
j90 N a0 a1 fun r5 =>
j119 N  N a2 a3 r5 0 a0 a1 false false (fun e7_0 e7_1 =>
(cond e7_0
((cond e7_1
(k 2)
((cond e7_1
(k 1)
(k 0)))))
((cond e7_1
(k 1)
(k 0)))))
/-! (loop.example/g03403/impl.Table).certifies -/
def j121 {β : Type} (N : Nat) (a0 : Int) (a1 : Int) (a2 : Int) (a3 : Int) (k : Bool → Option β) : Option β :=
j120 N a0 a1 a3 ((bits .and .i64 a2 a3)) fun r5 =>
k ((r5 != 2))
/-! (loop.example/g03403/impl.Table).certificate -/
def j122 {β : Type} (N : Nat)  (v0 : Int) (v1 : Int) (v2 : Int) (v3 : Int) (v4 : Int) (v5 : Int) (rec_ : Int → Int → Int → Int → Int → Int → Option β) (k0 : Int → Option β) : Option β :=
(cond ((decide (v3 < v2)))
(j117 N v3 fun r6 =>
j117 N v1 fun r7 =>
(cond ((decide (r6 < r7)))
(j121 N v4 v5 v0 v3 fun r8 =>
(cond r8
(rec_ v0 v3 v2 ((w64 (v3 + 1))) v4 v5)
(rec_ v0 v1 v2 ((w64 (v3 + 1))) v4 v5)))
(rec_ v0 v1 v2 ((w64 (v3 + 1))) v4 v5)))
(k0 v1))
def j123 {β : Type} (N : Nat)  : Nat → Int → Int → Int → Int → Int → Int → (Int → Option β) → Option β
  | 0, _, _, _, _, _, _, _ => none
  | F + 1, v0, v1, v2, v3, v4, v5, k0 => j122 N  v0 v1 v2 v3 v4 v5 (fun v0 v1 v2 v3 v4 v5 => j123 N  F v0 v1 v2 v3 v4 v5 k0) k0
def j124 {β : Type} (N : Nat) (a0 : Int) (a1 : Int) (a2 : Int) (k : Int → Option β) : Option β :=
j90 N a0 a1 fun r4 =>
j90 N a0 a1 fun r5 =>
j123 N  N a2 ((w64 (r4 - 1))) r5 0 a0 a1 (fun e9_0 =>
k e9_0)
/-! loop.example/g03403/impl.CertificateOf -/
def j125 {β : Type} (N : Nat)  (v0 : Int) (v1 : Int) (v2 : Int) (v3 : Int) (v4 : Int) (v5 : Int) (rec_ : Int → Int → Int → Int → Int → Int → Option β) (k0 : Int → Option β) : Option β :=
(cond ((decide (v3 < v2)))
(j94 N v4 v5 v3 fun r7 =>
(cond ((r7 == v0))
(j124 N v4 v5 v3 fun r8 =>
j117 N r8 fun r9 =>
rec_ v0 ((mxI v1 r9)) v2 ((w64 (v3 + 1))) v4 v5)
(rec_ v0 v1 v2 ((w64 (v3 + 1))) v4 v5)))
(k0 v1))
def j126 {β : Type} (N : Nat)  : Nat → Int → Int → Int → Int → Int → Int → (Int → Option β) → Option β
  | 0, _, _, _, _, _, _, _ => none
  | F + 1, v0, v1, v2, v3, v4, v5, k0 => j125 N  v0 v1 v2 v3 v4 v5 (fun v0 v1 v2 v3 v4 v5 => j126 N  F v0 v1 v2 v3 v4 v5 k0) k0
def j127 {β : Type} (N : Nat) (a0 : Int) (a1 : Int) (a2 : Int) (k : Int → Option β) : Option β :=
j91 N a0 a1 fun r4 =>
(cond (!r4)
(k (-1))
(j115 N a2 fun r5 =>
(cond (!r5)
(k (-1))
(j90 N a0 a1 fun r6 =>
j126 N  N a2 0 r6 0 a0 a1 (fun e10_0 =>
k e10_0)))))
/-! (loop.example/g03403/impl.Table).asking -/
def j128 {β : Type} (N : Nat) (a0 : Int) (a1 : Int) (k0 : Int → Int → Mp → Mp → Option β) : Option β :=
k0 a0 a1 (([] : Mp)) (([] : Mp))
/-! (loop.example/g03403/impl.known).with -/
def j129 {β : Type} (N : Nat) (a0 : Int) (a1 : Int) (a2 : Int) (a3 : Int) (k : Int → Int → Option β) : Option β :=
(gd ((decide (0 ≤ a2)))
((gd ((decide (0 ≤ a2)))
(k ((bits .or .i64 a0 (shlI .i64 1 a2))) ((bits .or .i64 a1 (shlI .i64 a3 a2)))))))
/-! (*loop.example/g03403/impl.asker).left -/
def j130 {β : Type} (N : Nat) (self : Int → Int → Int → Int → Mp → Mp → (Int → Int → Int → Mp → Mp → Option β) → Option β)  (v0 : Int) (v1 : Int) (v2 : Int) (v3 : Int) (v4 : Int) (v5 : Mp) (v6 : Mp) (v7 : Int) (v8 : Int) (rec_ : Int → Int → Int → Int → Int → Mp → Mp → Int → Int → Option β) (k0 : Int → Int → Int → Mp → Mp → Int → Int → Option β) : Option β :=
(cond ((decide (v2 < v1)))
((gd ((decide (0 ≤ v2)))
((cond (((bits .and .i64 (shrI .i64 v7 v2) 1) == 0))
(j129 N v7 v8 v2 0 fun r6 r7 =>
self r6 r7 v3 v4 v5 v6 (fun r8_0 r8_1 r8_2 r8_3 r8_4 =>
j129 N v7 v8 v2 1 fun r9 r10 =>
self r9 r10 r8_1 r8_2 r8_3 r8_4 (fun r11_0 r11_1 r11_2 r11_3 r11_4 =>
rec_ ((mnI v0 (w64 (1 + (mxI r8_0 r11_0))))) v1 ((w64 (v2 + 1))) r11_1 r11_2 r11_3 r11_4 v7 v8)))
(rec_ v0 v1 ((w64 (v2 + 1))) v3 v4 v5 v6 v7 v8)))))
(k0 v0 v3 v4 v5 v6 v7 v8))
def j131 {β : Type} (N : Nat) (self : Int → Int → Int → Int → Mp → Mp → (Int → Int → Int → Mp → Mp → Option β) → Option β)  : Nat → Int → Int → Int → Int → Int → Mp → Mp → Int → Int → (Int → Int → Int → Mp → Mp → Int → Int → Option β) → Option β
  | 0, _, _, _, _, _, _, _, _, _, _ => none
  | F + 1, v0, v1, v2, v3, v4, v5, v6, v7, v8, k0 => j130 N self  v0 v1 v2 v3 v4 v5 v6 v7 v8 (fun v0 v1 v2 v3 v4 v5 v6 v7 v8 => j131 N self  F v0 v1 v2 v3 v4 v5 v6 v7 v8 k0) k0
def j132 {β : Type} (N : Nat) (self : Int → Int → Int → Int → Mp → Mp → (Int → Int → Int → Mp → Mp → Option β) → Option β) (a0 : Int) (a1 : Int) (a2 : Int) (a3 : Int) (a4 : Mp) (a5 : Mp) (k0 : Int → Int → Int → Mp → Mp → Option β) : Option β :=
(cond ((hasM ⟨true, false⟩ a4 a0 a1))
(k0 ((getM ⟨true, false⟩ a4 a0 a1)) a2 a3 a4 a5)
(j120 N a2 a3 a0 a1 fun r5 =>
(cond ((r5 == 2))
(j131 N self  N a2 a2 0 a2 a3 a4 a5 a0 a1 (fun e12_0 e12_1 e12_2 e12_3 e12_4 e12_5 e12_6 =>
k0 e12_0 e12_1 e12_2 ((putM ⟨true, false⟩ e12_3 e12_5 e12_6 e12_0)) e12_4))
(k0 0 a2 a3 ((putM ⟨true, false⟩ a4 a0 a1 0)) a5))))
def j133 {β : Type} (N : Nat) : Nat → Int → Int → Int → Int → Mp → Mp → (Int → Int → Int → Mp → Mp → Option β) → Option β
  | 0, _, _, _, _, _, _, _ => none
  | F + 1, a0, a1, a2, a3, a4, a5, k0 => j132 N (j133 N F) a0 a1 a2 a3 a4 a5 k0
def j134 {β : Type} (N : Nat) (a0 : Int) (a1 : Int) (a2 : Int) (a3 : Int) (a4 : Mp) (a5 : Mp) (k0 : Int → Int → Int → Mp → Mp → Option β) : Option β := j133 N N a0 a1 a2 a3 a4 a5 k0
/-! loop.example/g03403/impl.LeastDepth -/
def j135 {β : Type} (N : Nat) (a0 : Int) (a1 : Int) (k : Int → Option β) : Option β :=
j92 N a0 a1 4 fun r3 =>
(cond (!r3)
(k (-1))
(j128 N a0 a1 (fun r4_0 r4_1 r4_2 r4_3 =>
j134 N 0 0 r4_0 r4_1 r4_2 r4_3 (fun r5_0 r5_1 r5_2 r5_3 r5_4 =>
k r5_0))))
/-! (loop.example/g03403/impl.Table).coefficients -/
def j136 {β : Type} (N : Nat)  (v0 : Int) (v1 : Int) (v2 : Int) (v3 : Int) (v4 : Int) (v5 : Int) (v6 : Int) (v7 : List Int) (rec_ : Int → Int → Int → Int → Int → Int → Int → List Int → Option β) (k0 : Int → Int → Int → Int → List Int → Option β) : Option β :=
(cond ((decide (v4 < v3)))
((cond (((bits .andNot .i64 v4 v0) != 0))
(rec_ v0 v1 v2 v3 ((w64 (v4 + 1))) v5 v6 v7)
(j117 N ((bits .xor .i64 v0 v4)) fun r5 =>
(cond (((remI r5 2) == 0))
((gd ((decide (0 ≤ v0)))
((gd ((decide (v0 < (v7.length : Int))))
(j94 N v5 v6 v4 fun r6 =>
(gd ((decide (0 ≤ v0)))
((gd ((decide (v0 < (v7.length : Int))))
(rec_ v0 v1 v2 v3 ((w64 (v4 + 1))) v5 v6 ((wr v7 v0 (w64 ((rd 0 v7 v0) + r6)))))))))))))
((gd ((decide (0 ≤ v0)))
((gd ((decide (v0 < (v7.length : Int))))
(j94 N v5 v6 v4 fun r7 =>
(gd ((decide (0 ≤ v0)))
((gd ((decide (v0 < (v7.length : Int))))
(rec_ v0 v1 v2 v3 ((w64 (v4 + 1))) v5 v6 ((wr v7 v0 (w64 ((rd 0 v7 v0) - r7)))))))))))))))))
(k0 v1 v2 v5 v6 v7))
def j137 {β : Type} (N : Nat)  : Nat → Int → Int → Int → Int → Int → Int → Int → List Int → (Int → Int → Int → Int → List Int → Option β) → Option β
  | 0, _, _, _, _, _, _, _, _, _ => none
  | F + 1, v0, v1, v2, v3, v4, v5, v6, v7, k0 => j136 N  v0 v1 v2 v3 v4 v5 v6 v7 (fun v0 v1 v2 v3 v4 v5 v6 v7 => j137 N  F v0 v1 v2 v3 v4 v5 v6 v7 k0) k0
def j138 {β : Type} (N : Nat)  (v0 : Int) (v1 : Int) (v2 : Int) (v3 : Int) (v4 : List Int) (rec_ : Int → Int → Int → Int → List Int → Option β) (k0 : List Int → Option β) : Option β :=
(cond ((decide (v1 < v0)))
(j90 N v2 v3 fun r4 =>
j137 N  N v1 v0 v1 r4 0 v2 v3 v4 (fun e8_0 e8_1 e8_2 e8_3 e8_4 =>
rec_ e8_0 ((w64 (e8_1 + 1))) e8_2 e8_3 e8_4))
(k0 v4))
def j139 {β : Type} (N : Nat)  : Nat → Int → Int → Int → Int → List Int → (List Int → Option β) → Option β
  | 0, _, _, _, _, _, _ => none
  | F + 1, v0, v1, v2, v3, v4, k0 => j138 N  v0 v1 v2 v3 v4 (fun v0 v1 v2 v3 v4 => j139 N  F v0 v1 v2 v3 v4 k0) k0
def j140 {β : Type} (N : Nat) (a0 : Int) (a1 : Int) (k : List Int → Option β) : Option β :=
j90 N a0 a1 fun r3 =>
(gd ((decide (0 ≤ r3)))
((gd ((decide (r3 ≤ r3)))
((gd ((decide (8 * r3 ≤ 281474976710656)))
(j139 N  N ((((List.replicate (Int.toNat r3) (0 : Int))).length : Int)) 0 a0 a1 ((List.replicate (Int.toNat r3) (0 : Int))) (fun e9_0 =>
k e9_0)))))))
/-! loop.example/g03403/impl.RealDegree$1 -/
def j141 {β : Type} (N : Nat) (a0 : Int) (c0 : List Int) (k : Bool → Option β) : Option β :=
(gd ((decide (0 ≤ a0)))
((gd ((decide (a0 < (c0.length : Int))))
(k (((rd 0 c0 a0) != 0))))))
/-! loop.example/g03403/impl.DegreeMod2$1 -/
def j142 {β : Type} (N : Nat) (a0 : Int) (c0 : Int) (c1 : Int) (k : Bool → Option β) : Option β :=
j94 N c0 c1 a0 fun r2 =>
k ((r2 == 1))
/-! loop.example/g03403/impl.degree -/
def j143 {β : Type} (N : Nat) (a1 : (Int → (Bool → Option β) → Option β)) (v0 : Int) (v1 : Int) (v2 : Int) (rec_ : Int → Int → Int → Option β) (k0 : Int → Option β) : Option β :=
(cond ((decide (v2 < v1)))
(a1 v2 fun r3 =>
(cond r3
(j117 N v2 fun r4 =>
rec_ ((mxI v0 r4)) v1 ((w64 (v2 + 1))))
(rec_ v0 v1 ((w64 (v2 + 1))))))
(k0 v0))
def j144 {β : Type} (N : Nat) (a1 : (Int → (Bool → Option β) → Option β)) : Nat → Int → Int → Int → (Int → Option β) → Option β
  | 0, _, _, _, _ => none
  | F + 1, v0, v1, v2, k0 => j143 N a1 v0 v1 v2 (fun v0 v1 v2 => j144 N a1 F v0 v1 v2 k0) k0
def j145 {β : Type} (N : Nat) (a0 : Int) (a1 : (Int → (Bool → Option β) → Option β)) (k : Int → Option β) : Option β :=
(gd ((decide (0 ≤ a0)))
(j144 N a1 N (-1) ((shlI .i64 1 a0)) 0 (fun e5_0 =>
k e5_0)))
/-! loop.example/g03403/impl.RealDegree -/
def j146 {β : Type} (N : Nat) (a0 : Int) (a1 : Int) (k : Int → Option β) : Option β :=
j91 N a0 a1 fun r3 =>
(cond (!r3)
(k (-2))
(j140 N a0 a1 fun r4 =>
j145 N a0 (fun x0 k => j141 N x0 r4 k) fun r5 =>
k r5))
/-! (loop.example/g03403/impl.Table).anf$1 -/
def j147 {β : Type} (N : Nat)  (v0 : Int) (v1 : Int) (v2 : Int) (v3 : Int) (v4 : Int) (v5 : Int) (rec_ : Int → Int → Int → Int → Int → Int → Option β) (k0 : Int → Option β) : Option β :=
(cond ((decide (v5 < v4)))
((cond (((bits .andNot .i64 v5 v0) == 0))
(j94 N v1 v2 v5 fun r3 =>
rec_ v0 v1 v2 ((bits .xor .i64 v3 r3)) v4 ((w64 (v5 + 1))))
(rec_ v0 v1 v2 v3 v4 ((w64 (v5 + 1))))))
(k0 v3))
def j148 {β : Type} (N : Nat)  : Nat → Int → Int → Int → Int → Int → Int → (Int → Option β) → Option β
  | 0, _, _, _, _, _, _, _ => none
  | F + 1, v0, v1, v2, v3, v4, v5, k0 => j147 N  v0 v1 v2 v3 v4 v5 (fun v0 v1 v2 v3 v4 v5 => j148 N  F v0 v1 v2 v3 v4 v5 k0) k0
def j149 {β : Type} (N : Nat) (a0 : Int) (c0 : Int) (c1 : Int) (k : Bool → Option β) : Option β :=
j90 N c0 c1 fun r2 =>
j148 N  N a0 c0 c1 0 r2 0 (fun e4_0 =>
k ((e4_0 == 1)))
/-! loop.example/g03403/impl.makeTable -/
def j150 {β : Type} (N : Nat) (a1 : (Int → (Bool → Option β) → Option β)) (v0 : Int) (v1 : Int) (v2 : Int) (v3 : Int) (v4 : Int) (v5 : Int) (rec_ : Int → Int → Int → Int → Int → Int → Option β) (k0 : Int → Int → Int → Int → Option β) : Option β :=
(cond ((decide (v1 < v0)))
(a1 v1 fun r4 =>
(cond r4
((gd ((decide (0 ≤ v1)))
(rec_ v0 ((w64 (v1 + 1))) v2 v3 v4 ((bits .or .i64 v5 (shlI .i64 1 v1))))))
(rec_ v0 ((w64 (v1 + 1))) v2 v3 v4 v5)))
(k0 v2 v3 v4 v5))
def j151 {β : Type} (N : Nat) (a1 : (Int → (Bool → Option β) → Option β)) : Nat → Int → Int → Int → Int → Int → Int → (Int → Int → Int → Int → Option β) → Option β
  | 0, _, _, _, _, _, _, _ => none
  | F + 1, v0, v1, v2, v3, v4, v5, k0 => j150 N a1 v0 v1 v2 v3 v4 v5 (fun v0 v1 v2 v3 v4 v5 => j151 N a1 F v0 v1 v2 v3 v4 v5 k0) k0
def j152 {β : Type} (N : Nat) (a0 : Int) (a1 : (Int → (Bool → Option β) → Option β)) (k : Int → Int → Option β) : Option β :=
(gd ((decide (0 ≤ a0)))
(j151 N a1 N ((shlI .i64 1 a0)) 0 0 0 a0 0 (fun e5_0 e5_1 e5_2 e5_3 =>
k e5_2 e5_3)))
/-! (loop.example/g03403/impl.Table).anf -/
def j153 {β : Type} (N : Nat) (a0 : Int) (a1 : Int) (k : Int → Int → Option β) : Option β :=
j152 N a0 (fun x0 k => j149 N x0 a0 a1 k) fun r4 r5 =>
k r4 r5
/-! loop.example/g03403/impl.DegreeMod2 -/
def j154 {β : Type} (N : Nat) (a0 : Int) (a1 : Int) (k : Int → Option β) : Option β :=
j91 N a0 a1 fun r3 =>
(cond (!r3)
(k (-2))
(j153 N a0 a1 fun r4 r5 =>
j145 N a0 (fun x0 k => j142 N x0 r4 r5 k) fun r6 =>
k r6))
/-! loop.example/g03403/impl.CountOnes -/
def j155 {β : Type} (N : Nat) (a0 : Int) (a1 : Int) (k : Int → Option β) : Option β :=
j91 N a0 a1 fun r3 =>
(cond (!r3)
(k (-1))
(j117 N a1 fun r4 =>
k r4))
/-! (loop.example/g03403/impl.Table).influence -/
def j156 {β : Type} (N : Nat)  (v0 : Int) (v1 : Int) (v2 : Int) (v3 : Int) (v4 : Int) (v5 : Int) (rec_ : Int → Int → Int → Int → Int → Int → Option β) (k0 : Int → Option β) : Option β :=
(cond ((decide (v3 < v2)))
((gd ((decide (0 ≤ v0)))
(j95 N v4 v5 v3 ((shlI .i64 1 v0)) fun r5 =>
(cond r5
(rec_ v0 ((w64 (v1 + 1))) v2 ((w64 (v3 + 1))) v4 v5)
(rec_ v0 v1 v2 ((w64 (v3 + 1))) v4 v5)))))
(k0 v1))
def j157 {β : Type} (N : Nat)  : Nat → Int → Int → Int → Int → Int → Int → (Int → Option β) → Option β
  | 0, _, _, _, _, _, _, _ => none
  | F + 1, v0, v1, v2, v3, v4, v5, k0 => j156 N  v0 v1 v2 v3 v4 v5 (fun v0 v1 v2 v3 v4 v5 => j157 N  F v0 v1 v2 v3 v4 v5 k0) k0
def j158 {β : Type} (N : Nat) (a0 : Int) (a1 : Int) (a2 : Int) (k : Int → Option β) : Option β :=
j90 N a0 a1 fun r4 =>
j157 N  N a2 0 r4 0 a0 a1 (fun e6_0 =>
k e6_0)
/-! (loop.example/g03403/impl.Table).influences -/
def j159 {β : Type} (N : Nat)  (v0 : Int) (v1 : Int) (v2 : Int) (v3 : Int) (v4 : List Int) (rec_ : Int → Int → Int → Int → List Int → Option β) (k0 : List Int → Option β) : Option β :=
(cond ((decide (v1 < v0)))
(j158 N v2 v3 v1 fun r3 =>
(gd ((decide (0 ≤ v1)))
((gd ((decide (v1 < (v4.length : Int))))
(rec_ v0 ((w64 (v1 + 1))) v2 v3 ((wr v4 v1 r3)))))))
(k0 v4))
def j160 {β : Type} (N : Nat)  : Nat → Int → Int → Int → Int → List Int → (List Int → Option β) → Option β
  | 0, _, _, _, _, _, _ => none
  | F + 1, v0, v1, v2, v3, v4, k0 => j159 N  v0 v1 v2 v3 v4 (fun v0 v1 v2 v3 v4 => j160 N  F v0 v1 v2 v3 v4 k0) k0
def j161 {β : Type} (N : Nat) (a0 : Int) (a1 : Int) (k : List Int → Option β) : Option β :=
(gd ((decide (0 ≤ a0)))
((gd ((decide (a0 ≤ a0)))
((gd ((decide (8 * a0 ≤ 281474976710656)))
(j160 N  N ((((List.replicate (Int.toNat a0) (0 : Int))).length : Int)) 0 a0 a1 ((List.replicate (Int.toNat a0) (0 : Int))) (fun e4_0 =>
k e4_0)))))))
/-! loop.example/g03403/impl.TotalInfluence -/
def j162 {β : Type} (N : Nat)  (v0 : Int) (v1 : Int) (v2 : Int) (v3 : List Int) (rec_ : Int → Int → Int → List Int → Option β) (k0 : Int → Option β) : Option β :=
(cond ((decide (v2 < v1)))
((gd ((decide (0 ≤ v2)))
((gd ((decide (v2 < (v3.length : Int))))
(rec_ ((w64 (v0 + (rd 0 v3 v2)))) v1 ((w64 (v2 + 1))) v3)))))
(k0 v0))
def j163 {β : Type} (N : Nat)  : Nat → Int → Int → Int → List Int → (Int → Option β) → Option β
  | 0, _, _, _, _, _ => none
  | F + 1, v0, v1, v2, v3, k0 => j162 N  v0 v1 v2 v3 (fun v0 v1 v2 v3 => j163 N  F v0 v1 v2 v3 k0) k0
def j164 {β : Type} (N : Nat) (a0 : Int) (a1 : Int) (k : Int → Option β) : Option β :=
j91 N a0 a1 fun r3 =>
(cond (!r3)
(k (-1))
(j161 N a0 a1 fun r4 =>
j163 N  N 0 ((r4.length : Int)) 0 r4 (fun e5_0 =>
k e5_0)))
/-! loop.example/g03403/impl.measure -/
def j165 {β : Type} (N : Nat) (a0 : ByteArray) (a1 : Int) (a2 : Int) (k : Int → Option β) : Option β :=
(cond ((a0.toList == ((strOf [115, 101, 110, 115, 105, 116, 105, 118, 105, 116, 121])).toList))
(j101 N a1 a2 fun r4 =>
k r4)
((cond ((a0.toList == ((strOf [98, 108, 111, 99, 107, 115])).toList))
(j114 N a1 a2 fun r5 =>
k r5)
((cond ((a0.toList == ((strOf [99, 101, 114, 116, 105, 102, 105, 99, 97, 116, 101])).toList))
(j127 N a1 a2 0 fun r6 =>
j127 N a1 a2 1 fun r7 =>
k ((mxI r6 r7)))
((cond ((a0.toList == ((strOf [100, 101, 112, 116, 104])).toList))
(j135 N a1 a2 fun r8 =>
k r8)
((cond ((a0.toList == ((strOf [100, 101, 103, 114, 101, 101])).toList))
(j146 N a1 a2 fun r9 =>
k ((mxI r9 0)))
((cond ((a0.toList == ((strOf [100, 101, 103, 114, 101, 101, 50])).toList))
(j154 N a1 a2 fun r10 =>
k ((mxI r10 0)))
((cond ((a0.toList == ((strOf [111, 110, 101, 115])).toList))
(j155 N a1 a2 fun r11 =>
k r11)
((cond ((a0.toList == ((strOf [105, 110, 102, 108, 117, 101, 110, 99, 101])).toList))
(j164 N a1 a2 fun r12 =>
k r12)
(k (-1)))))))))))))))))
/-! loop.example/g03403/impl.FormatInt -/
def j166 {β : Type} (N : Nat) (a0 : Int) (k : ByteArray → Option β) : Option β :=
strconv_Itoa N a0 fun r2 =>
k r2
/-! (*loop.example/g03403/impl.asker).all -/
def j167 {β : Type} (N : Nat) (self : Int → Int → Int → Int → Mp → Mp → (Int → Int → Int → Mp → Mp → Option β) → Option β)  (v0 : Int) (v1 : Int) (v2 : Int) (v3 : Int) (v4 : Int) (v5 : Int) (v6 : Mp) (v7 : Mp) (v8 : Int) (v9 : Int) (rec_ : Int → Int → Int → Int → Int → Int → Mp → Mp → Int → Int → Option β) (k0 : Int → Int → Int → Mp → Mp → Int → Int → Option β) : Option β :=
(cond ((decide (v3 < v2)))
((gd ((decide (0 ≤ v3)))
((cond (((bits .and .i64 (shrI .i64 v8 v3) 1) == 0))
(j129 N v8 v9 v3 0 fun r7 r8 =>
self r7 r8 v4 v5 v6 v7 (fun r9_0 r9_1 r9_2 r9_3 r9_4 =>
j129 N v8 v9 v3 1 fun r10 r11 =>
self r10 r11 r9_1 r9_2 r9_3 r9_4 (fun r12_0 r12_1 r12_2 r12_3 r12_4 =>
rec_ ((mnI v0 (w64 ((w64 (v1 + r9_0)) + r12_0)))) v1 v2 ((w64 (v3 + 1))) r12_1 r12_2 r12_3 r12_4 v8 v9)))
(rec_ v0 v1 v2 ((w64 (v3 + 1))) v4 v5 v6 v7 v8 v9)))))
(k0 v0 v4 v5 v6 v7 v8 v9))
def j168 {β : Type} (N : Nat) (self : Int → Int → Int → Int → Mp → Mp → (Int → Int → Int → Mp → Mp → Option β) → Option β)  : Nat → Int → Int → Int → Int → Int → Int → Mp → Mp → Int → Int → (Int → Int → Int → Mp → Mp → Int → Int → Option β) → Option β
  | 0, _, _, _, _, _, _, _, _, _, _, _ => none
  | F + 1, v0, v1, v2, v3, v4, v5, v6, v7, v8, v9, k0 => j167 N self  v0 v1 v2 v3 v4 v5 v6 v7 v8 v9 (fun v0 v1 v2 v3 v4 v5 v6 v7 v8 v9 => j168 N self  F v0 v1 v2 v3 v4 v5 v6 v7 v8 v9 k0) k0
def j169 {β : Type} (N : Nat) (self : Int → Int → Int → Int → Mp → Mp → (Int → Int → Int → Mp → Mp → Option β) → Option β) (a0 : Int) (a1 : Int) (a2 : Int) (a3 : Int) (a4 : Mp) (a5 : Mp) (k0 : Int → Int → Int → Mp → Mp → Option β) : Option β :=
(cond ((hasM ⟨true, false⟩ a5 a0 a1))
(k0 ((getM ⟨true, false⟩ a5 a0 a1)) a2 a3 a4 a5)
(j120 N a2 a3 a0 a1 fun r5 =>
(cond ((r5 == 2))
(j117 N a0 fun r6 =>
(gd ((decide (0 ≤ (w64 (a2 - r6)))))
(j168 N self  N ((w64 ((shlI .i64 1 (w64 (a2 - r6))) * a2))) ((shlI .i64 1 (w64 (a2 - r6)))) a2 0 a2 a3 a4 a5 a0 a1 (fun e13_0 e13_1 e13_2 e13_3 e13_4 e13_5 e13_6 =>
k0 e13_0 e13_1 e13_2 e13_3 ((putM ⟨true, false⟩ e13_4 e13_5 e13_6 e13_0))))))
(k0 0 a2 a3 a4 ((putM ⟨true, false⟩ a5 a0 a1 0))))))
def j170 {β : Type} (N : Nat) : Nat → Int → Int → Int → Int → Mp → Mp → (Int → Int → Int → Mp → Mp → Option β) → Option β
  | 0, _, _, _, _, _, _, _ => none
  | F + 1, a0, a1, a2, a3, a4, a5, k0 => j169 N (j170 N F) a0 a1 a2 a3 a4 a5 k0
def j171 {β : Type} (N : Nat) (a0 : Int) (a1 : Int) (a2 : Int) (a3 : Int) (a4 : Mp) (a5 : Mp) (k0 : Int → Int → Int → Mp → Mp → Option β) : Option β := j170 N N a0 a1 a2 a3 a4 a5 k0
/-! loop.example/g03403/impl.LeastAverage -/
def j172 {β : Type} (N : Nat) (a0 : Int) (a1 : Int) (k : Int → Option β) : Option β :=
j92 N a0 a1 4 fun r3 =>
(cond (!r3)
(k (-1))
(j128 N a0 a1 (fun r4_0 r4_1 r4_2 r4_3 =>
j171 N 0 0 r4_0 r4_1 r4_2 r4_3 (fun r5_0 r5_1 r5_2 r5_3 r5_4 =>
k r5_0))))
/-! (loop.example/g03403/impl.Table).not -/
def j173 {β : Type} (N : Nat) (a0 : Int) (a1 : Int) (k : Int → Int → Option β) : Option β :=
j90 N a0 a1 fun r4 =>
(gd ((decide (0 ≤ r4)))
(k a0 ((bits .xor .i64 a1 (w64 ((shlI .i64 1 r4) - 1))))))
/-! loop.example/g03403/impl.edges -/
def j174 {β : Type} (N : Nat)  (v0 : Int) (v1 : Int) (v2 : Int) (v3 : Int) (v4 : Int) (v5 : Int) (v6 : Int) (v7 : Int) (v8 : Int) (rec_ : Int → Int → Int → Int → Int → Int → Int → Int → Int → Option β) (k0 : Int → Int → Int → Int → Int → Int → Option β) : Option β :=
(cond ((decide (v8 < v7)))
((gd ((decide (0 ≤ v4)))
((gd ((decide (0 ≤ v8)))
((gd ((decide (0 ≤ (bits .xor .i64 v4 (shlI .i64 1 v8)))))
(rec_ v0 v1 v2 ((w64 (v3 + (bits .and .i64 (bits .and .i64 (shrI .i64 v1 v4) 1) (shrI .i64 v2 (bits .xor .i64 v4 (shlI .i64 1 v8))))))) v4 v5 v6 v7 ((w64 (v8 + 1))))))))))
(k0 v0 v1 v2 v3 v5 v6))
def j175 {β : Type} (N : Nat)  : Nat → Int → Int → Int → Int → Int → Int → Int → Int → Int → (Int → Int → Int → Int → Int → Int → Option β) → Option β
  | 0, _, _, _, _, _, _, _, _, _, _ => none
  | F + 1, v0, v1, v2, v3, v4, v5, v6, v7, v8, k0 => j174 N  v0 v1 v2 v3 v4 v5 v6 v7 v8 (fun v0 v1 v2 v3 v4 v5 v6 v7 v8 => j175 N  F v0 v1 v2 v3 v4 v5 v6 v7 v8 k0) k0
def j176 {β : Type} (N : Nat)  (v0 : Int) (v1 : Int) (v2 : Int) (v3 : Int) (v4 : Int) (v5 : Int) (rec_ : Int → Int → Int → Int → Int → Int → Option β) (k0 : Int → Option β) : Option β :=
(cond ((decide (v5 < v4)))
(j175 N  N v0 v1 v2 v3 v5 v4 v5 v0 0 (fun e4_0 e4_1 e4_2 e4_3 e4_4 e4_5 =>
rec_ e4_0 e4_1 e4_2 e4_3 e4_4 ((w64 (e4_5 + 1)))))
(k0 v3))
def j177 {β : Type} (N : Nat)  : Nat → Int → Int → Int → Int → Int → Int → (Int → Option β) → Option β
  | 0, _, _, _, _, _, _, _ => none
  | F + 1, v0, v1, v2, v3, v4, v5, k0 => j176 N  v0 v1 v2 v3 v4 v5 (fun v0 v1 v2 v3 v4 v5 => j177 N  F v0 v1 v2 v3 v4 v5 k0) k0
def j178 {β : Type} (N : Nat) (a0 : Int) (a1 : Int) (a2 : Int) (k : Int → Option β) : Option β :=
(gd ((decide (0 ≤ a0)))
(j177 N  N a0 a1 a2 0 ((shlI .i64 1 a0)) 0 (fun e5_0 =>
k e5_0)))
/-! loop.example/g03403/impl.bound -/
def j179 {β : Type} (N : Nat) (a0 : Int) (a1 : Int) (a2 : Int) (k : Int → Option β) : Option β :=
j117 N a1 fun r4 =>
j117 N a2 fun r5 =>
(cond (((w64 (r4 * r5)) == 0))
(k 0)
(j178 N a0 a1 a2 fun r6 =>
(gd (((w64 (r4 * r5)) != 0))
(k ((quoI .i64 (w64 ((w64 ((w64 (r6 * r6)) + (w64 (r4 * r5)))) - 1)) (w64 (r4 * r5))))))))
/-! loop.example/g03403/impl.TableBound -/
def j180 {β : Type} (N : Nat) (a0 : Int) (a1 : Int) (k : Int → Option β) : Option β :=
j92 N a0 a1 4 fun r3 =>
(cond (!r3)
(k (-1))
(j173 N a0 a1 fun r4 r5 =>
j179 N a0 a1 r5 fun r6 =>
k r6))
/-! loop.example/g03403/impl.IsEvasive -/
def j181 {β : Type} (N : Nat) (a0 : Int) (a1 : Int) (k : Bool → Option β) : Option β :=
j92 N a0 a1 4 fun r3 =>
(cond r3
(j135 N a0 a1 fun r4 =>
k ((r4 == a0)))
(k false))
/-! (*loop.example/g03403/impl.line).put -/
def j182 {β : Type} (N : Nat) (a0 : List ByteArray) (a1 : List ByteArray) (k0 : List ByteArray → List ByteArray → Option β) : Option β :=
(gd ((decide ((a1.length + a0.length) * 16 ≤ 140737488355328)))
(k0 a0 ((a1 ++ a0))))
/-! (*loop.example/g03403/impl.line).putIf -/
def j183 {β : Type} (N : Nat) (a0 : Bool) (a1 : ByteArray) (a2 : List ByteArray) (k0 : List ByteArray → Option β) (k1 : List ByteArray → Option β) : Option β :=
(cond a0
(j182 N ((([] : List ByteArray) ++ [a1])) a2 (fun r16_0 r16_1 =>
k0 r16_1))
(k1 a2))
/-! (*loop.example/g03403/impl.line).text -/
def j184 {β : Type} (N : Nat) (a0 : List ByteArray) (k0 : ByteArray → List ByteArray → Option β) : Option β :=
strings_Join N a0 ((strOf [32])) fun r18 =>
k0 r18 a0
/-! loop.example/g03403/impl.MeasureLine -/
def j185 {β : Type} (N : Nat)  (v0 : Int) (v1 : Int) (v2 : Int) (v3 : Int) (v4 : List ByteArray) (v5 : List ByteArray) (rec_ : Int → Int → Int → Int → List ByteArray → List ByteArray → Option β) (k0 : Int → Int → List ByteArray → Option β) : Option β :=
(cond ((decide (v1 < v0)))
((gd ((decide (0 ≤ v1)))
((gd ((decide (v1 < (v4.length : Int))))
(j165 N ((rd ByteArray.empty v4 v1)) v2 v3 fun r6 =>
j166 N r6 fun r7 =>
j182 N (((([] : List ByteArray) ++ [(rd ByteArray.empty v4 v1)]) ++ [r7])) v5 (fun r8_0 r8_1 =>
rec_ v0 ((w64 (v1 + 1))) v2 v3 v4 r8_1))))))
(k0 v2 v3 v5))
def j186 {β : Type} (N : Nat)  : Nat → Int → Int → Int → Int → List ByteArray → List ByteArray → (Int → Int → List ByteArray → Option β) → Option β
  | 0, _, _, _, _, _, _, _ => none
  | F + 1, v0, v1, v2, v3, v4, v5, k0 => j185 N  v0 v1 v2 v3 v4 v5 (fun v0 v1 v2 v3 v4 v5 => j186 N  F v0 v1 v2 v3 v4 v5 k0) k0
def j187 {β : Type} (N : Nat) (a0 : Int) (a1 : Int) (k : ByteArray → Option β) : Option β :=
j92 N a0 a1 4 fun r3 =>
(cond (!r3)
(k ByteArray.empty)
(j182 N ((([] : List ByteArray) ++ [(strOf [109, 101, 97, 115, 117, 114, 101, 115])])) (([] : List ByteArray)) (fun r4_0 r4_1 =>
j93 N  fun r5 =>
j186 N  N ((r5.length : Int)) 0 a0 a1 r5 r4_1 (fun e9_0 e9_1 e9_2 =>
j172 N e9_0 e9_1 fun r10 =>
j166 N r10 fun r11 =>
j180 N e9_0 e9_1 fun r12 =>
j166 N r12 fun r13 =>
j182 N (((((([] : List ByteArray) ++ [(strOf [97, 118, 101, 114, 97, 103, 101])]) ++ [r11]) ++ [(strOf [107, 114, 97, 112, 99, 104, 101, 110, 107, 111])]) ++ [r13])) e9_2 (fun r14_0 r14_1 =>
j181 N e9_0 e9_1 fun r15 =>
j183 N r15 ((strOf [101, 118, 97, 115, 105, 118, 101])) r14_1 (fun r16_0 =>
j184 N r16_0 (fun r17_0 r17_1 =>
k r17_0)) (fun r18_0 =>
j184 N r18_0 (fun r19_0 r19_1 =>
k r19_0)))))))
/-! loop.example/g03403/laws.FnExactMeasureLine -/
def laws_FnExactMeasureLine {β : Type} (N : Nat) (a0 : Int) (a1 : Int) (k : Bool → Option β) : Option β :=
j0 N a0 a1 fun r3 r4 =>
j88 N r3 r4 fun r5 =>
j0 N a0 a1 fun r6 r7 =>
j187 N r6 r7 fun r8 =>
(cond ((!(r8.toList == r5.toList)))
(k false)
(k true))
end Go.Proofs.YtignjkbhdaiegaaGreatDoor
